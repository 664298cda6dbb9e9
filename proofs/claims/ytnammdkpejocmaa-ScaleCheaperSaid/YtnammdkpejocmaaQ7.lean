/- Lean functions and contracts of Go functions of this claim, printed by a program of this session out of the translation. -/
import Derived.Test.YtnammdkpejocmaaPrint0
import Derived.Test.YtnammdkpejocmaaPrint3
import Derived.Test.YtnammdkpejocmaaHZ
namespace Go.Proofs.Ytnammdkpejocmaa.Print
open Go.RowKit Go.Proofs.YtnammdkpejocmaaW.PrintWords Go.Proofs.YtnammdkpejocmaaW.PrintLast Go.Proofs.YtnammdkpejocmaaW.PrintMore
attribute [local go_sem] max2_int min2_int max_two min_two max_three min_three max_four min_four   -- for this text's walks alone
set_option linter.unusedVariables false
set_option linter.unusedSimpArgs false

/-! ### gasworkslaw13_ScaleCheaper: function 7 -/
mutual
def gasworkslaw13_ScaleCheaper.j0 : Nat → Int → Int → Int → Bool → Int → Int → Int → Int → Int → Int → Option (Bool)
  | 0, _, _, _, _, _, _, _, _, _, _ => none
  | k + 1, x1, x2, x7, x54, x301000, x301001, x301002, x301003, x301004, x301005 => if x54 = true then (some false) else ((scale_Rate.f x301000 x301001 x301002 x301003 x301004 x301005 (mx 0 (wrap64 (x1 - (wrap64 (x2)))))).bind fun bt306 => (if bt306.2 = 0 then (gasworkslaw13_ScaleCheaper.j1 k x1 x7 (decide (bt306.1 < x7)) x301000 x301001 x301002 x301003 x301004 x301005) else (gasworkslaw13_ScaleCheaper.j1 k x1 x7 true x301000 x301001 x301002 x301003 x301004 x301005)))
def gasworkslaw13_ScaleCheaper.j1 : Nat → Int → Int → Bool → Int → Int → Int → Int → Int → Int → Option (Bool)
  | 0, _, _, _, _, _, _, _, _, _ => none
  | k + 1, x1, x7, x71, x301000, x301001, x301002, x301003, x301004, x301005 => if x71 = true then (some false) else (if x1 ≥ x301002 then ((scale_Rate.f x301000 x301001 x301002 x301003 x301004 x301005 (wrap64 (x1 - x301002))).bind fun bt308 => (if bt308.2 = 0 then (if bt308.1 > (wrap64 (x7 + x301003)) then (gasworkslaw13_ScaleCheaper.j2 k x1 x7 true x301000 x301001 x301002 x301003 x301004 x301005) else (if bt308.1 < x7 then (gasworkslaw13_ScaleCheaper.j2 k x1 x7 true x301000 x301001 x301002 x301003 x301004 x301005) else (if x7 > 0 then (if bt308.1 < 10000 then (gasworkslaw13_ScaleCheaper.j2 k x1 x7 (bt308.1 != (wrap64 (x7 + x301003))) x301000 x301001 x301002 x301003 x301004 x301005) else (gasworkslaw13_ScaleCheaper.j2 k x1 x7 false x301000 x301001 x301002 x301003 x301004 x301005)) else (gasworkslaw13_ScaleCheaper.j2 k x1 x7 false x301000 x301001 x301002 x301003 x301004 x301005)))) else (gasworkslaw13_ScaleCheaper.j2 k x1 x7 true x301000 x301001 x301002 x301003 x301004 x301005))) else (gasworkslaw13_ScaleCheaper.j3 k x1 x7 x301000 x301001 x301002 x301003 x301004 x301005))
def gasworkslaw13_ScaleCheaper.j3 : Nat → Int → Int → Int → Int → Int → Int → Int → Int → Option (Bool)
  | 0, _, _, _, _, _, _, _, _ => none
  | k + 1, x1, x7, x301000, x301001, x301002, x301003, x301004, x301005 => (scale_Rate.f x301000 x301001 x301002 x301003 x301004 x301005 x301000).bind fun bt310 => ((scale_Dearest.f x301000 x301001 x301002 x301003 x301004 x301005 x7).bind fun bt312 => (if bt310.2 = 0 then (if bt310.1 = x301001 then (if bt312.2 = 0 then (if bt312.1 < x1 then (gasworkslaw13_ScaleCheaper.j4 k x1 x7 bt312.1 true x301000 x301001 x301002 x301003 x301004 x301005) else (gasworkslaw13_ScaleCheaper.j4 k x1 x7 bt312.1 (decide (bt312.1 > 100000)) x301000 x301001 x301002 x301003 x301004 x301005)) else (gasworkslaw13_ScaleCheaper.j4 k x1 x7 bt312.1 true x301000 x301001 x301002 x301003 x301004 x301005)) else (gasworkslaw13_ScaleCheaper.j4 k x1 x7 bt312.1 true x301000 x301001 x301002 x301003 x301004 x301005)) else (gasworkslaw13_ScaleCheaper.j4 k x1 x7 bt312.1 true x301000 x301001 x301002 x301003 x301004 x301005)))
def gasworkslaw13_ScaleCheaper.j4 : Nat → Int → Int → Int → Bool → Int → Int → Int → Int → Int → Int → Option (Bool)
  | 0, _, _, _, _, _, _, _, _, _, _ => none
  | k + 1, x1, x7, x15, x149, x301000, x301001, x301002, x301003, x301004, x301005 => if x149 = true then (some false) else ((scale_Rate.f x301000 x301001 x301002 x301003 x301004 x301005 x15).bind fun bt314 => ((scale_Rate.f x301000 x301001 x301002 x301003 x301004 x301005 (wrap64 (x15 + 1))).bind fun bt316 => (if bt314.2 = 0 then (if bt314.1 < x7 then (gasworkslaw13_ScaleCheaper.j5 k x1 x7 x15 true x301000 x301001 x301002 x301003 x301004 x301005) else (if bt316.2 = 0 then (if bt316.1 ≥ x7 then (gasworkslaw13_ScaleCheaper.j5 k x1 x7 x15 true x301000 x301001 x301002 x301003 x301004 x301005) else (gasworkslaw13_ScaleCheaper.j5 k x1 x7 x15 false x301000 x301001 x301002 x301003 x301004 x301005)) else (gasworkslaw13_ScaleCheaper.j5 k x1 x7 x15 (x15 != 100000) x301000 x301001 x301002 x301003 x301004 x301005))) else (gasworkslaw13_ScaleCheaper.j5 k x1 x7 x15 true x301000 x301001 x301002 x301003 x301004 x301005))))
def gasworkslaw13_ScaleCheaper.j5 : Nat → Int → Int → Int → Bool → Int → Int → Int → Int → Int → Int → Option (Bool)
  | 0, _, _, _, _, _, _, _, _, _, _ => none
  | k + 1, x1, x7, x15, x186, x301000, x301001, x301002, x301003, x301004, x301005 => if x186 = true then (some false) else ((scale_Dearest.f x301000 x301001 x301002 x301003 x301004 x301005 (mn 10000 (wrap64 (x7 + 1)))).bind fun bt318 => (if x7 = 10000 then (if bt318.2 = 0 then (if bt318.1 = x15 then ((gasworkslaw13_alive.f).bind fun t320 => (some t320)) else (some false)) else (some false)) else (if bt318.2 = 4 then (if bt318.1 = 0 then ((gasworkslaw13_alive.f).bind fun t321 => (some t321)) else (if bt318.2 = 0 then (if bt318.1 < x1 then ((gasworkslaw13_alive.f).bind fun t322 => (some t322)) else (some false)) else (some false))) else (if bt318.2 = 0 then (if bt318.1 < x1 then ((gasworkslaw13_alive.f).bind fun t323 => (some t323)) else (some false)) else (some false)))))
def gasworkslaw13_ScaleCheaper.j2 : Nat → Int → Int → Bool → Int → Int → Int → Int → Int → Int → Option (Bool)
  | 0, _, _, _, _, _, _, _, _, _ => none
  | k + 1, x1, x7, x115, x301000, x301001, x301002, x301003, x301004, x301005 => if x115 = true then (some false) else (gasworkslaw13_ScaleCheaper.j3 k x1 x7 x301000 x301001 x301002 x301003 x301004 x301005)
end
def gasworkslaw13_ScaleCheaper.f (k : Nat) (a0_0 : Int) (a0_1 : Int) (a0_2 : Int) (a0_3 : Int) (a0_4 : Int) (a0_5 : Int) (a1 : Int) (a2 : Int) : Option (Bool) := (scale_Rate.f a0_0 a0_1 a0_2 a0_3 a0_4 a0_5 a1).bind fun bt301 => (if bt301.2 = 0 then ((gasworksref13_Act.f a0_0 a0_1 a0_2 a0_3 a0_4 a0_5).bind fun t305 => (if t305 = true then (if bt301.1 < 0 then (gasworkslaw13_ScaleCheaper.j0 k a1 a2 bt301.1 true a0_0 a0_1 a0_2 a0_3 a0_4 a0_5) else (gasworkslaw13_ScaleCheaper.j0 k a1 a2 bt301.1 (decide (bt301.1 > 10000)) a0_0 a0_1 a0_2 a0_3 a0_4 a0_5)) else (gasworkslaw13_ScaleCheaper.j0 k a1 a2 bt301.1 true a0_0 a0_1 a0_2 a0_3 a0_4 a0_5))) else (if bt301.1 = 0 then ((gasworksref13_Act.f a0_0 a0_1 a0_2 a0_3 a0_4 a0_5).bind fun t303 => (if ((bt301.2 == 1) == (!t303)) = true then ((gasworkslaw13_alive.f).bind fun t304 => (some t304)) else (some false))) else (some false)))
theorem gasworkslaw13_ScaleCheaper.mono_l : ∀ k, (∀ y0 y1 y2 y3 y4 y5 y6 y7 y8 y9, LeO (gasworkslaw13_ScaleCheaper.j0 k y0 y1 y2 y3 y4 y5 y6 y7 y8 y9) (gasworkslaw13_ScaleCheaper.j0 (k + 1) y0 y1 y2 y3 y4 y5 y6 y7 y8 y9)) ∧ (∀ y0 y1 y2 y3 y4 y5 y6 y7 y8, LeO (gasworkslaw13_ScaleCheaper.j1 k y0 y1 y2 y3 y4 y5 y6 y7 y8) (gasworkslaw13_ScaleCheaper.j1 (k + 1) y0 y1 y2 y3 y4 y5 y6 y7 y8)) ∧ (∀ y0 y1 y2 y3 y4 y5 y6 y7, LeO (gasworkslaw13_ScaleCheaper.j3 k y0 y1 y2 y3 y4 y5 y6 y7) (gasworkslaw13_ScaleCheaper.j3 (k + 1) y0 y1 y2 y3 y4 y5 y6 y7)) ∧ (∀ y0 y1 y2 y3 y4 y5 y6 y7 y8 y9, LeO (gasworkslaw13_ScaleCheaper.j4 k y0 y1 y2 y3 y4 y5 y6 y7 y8 y9) (gasworkslaw13_ScaleCheaper.j4 (k + 1) y0 y1 y2 y3 y4 y5 y6 y7 y8 y9)) ∧ (∀ y0 y1 y2 y3 y4 y5 y6 y7 y8 y9, LeO (gasworkslaw13_ScaleCheaper.j5 k y0 y1 y2 y3 y4 y5 y6 y7 y8 y9) (gasworkslaw13_ScaleCheaper.j5 (k + 1) y0 y1 y2 y3 y4 y5 y6 y7 y8 y9)) ∧ (∀ y0 y1 y2 y3 y4 y5 y6 y7 y8, LeO (gasworkslaw13_ScaleCheaper.j2 k y0 y1 y2 y3 y4 y5 y6 y7 y8) (gasworkslaw13_ScaleCheaper.j2 (k + 1) y0 y1 y2 y3 y4 y5 y6 y7 y8))
  | 0 => ⟨fun _ _ _ _ _ _ _ _ _ _ r h => by simp [gasworkslaw13_ScaleCheaper.j0] at h, fun _ _ _ _ _ _ _ _ _ r h => by simp [gasworkslaw13_ScaleCheaper.j1] at h, fun _ _ _ _ _ _ _ _ r h => by simp [gasworkslaw13_ScaleCheaper.j3] at h, fun _ _ _ _ _ _ _ _ _ _ r h => by simp [gasworkslaw13_ScaleCheaper.j4] at h, fun _ _ _ _ _ _ _ _ _ _ r h => by simp [gasworkslaw13_ScaleCheaper.j5] at h, fun _ _ _ _ _ _ _ _ _ r h => by simp [gasworkslaw13_ScaleCheaper.j2] at h⟩
  | k + 1 => by
    obtain ⟨ih0, ih1, ih2, ih3, ih4, ih5⟩ := gasworkslaw13_ScaleCheaper.mono_l k
    refine ⟨?_, ?_, ?_, ?_, ?_, ?_⟩
    · intro y0 y1 y2 y3 y4 y5 y6 y7 y8 y9
      unfold gasworkslaw13_ScaleCheaper.j0
      repeat' first
      | (with_reducible exact ih0 _ _ _ _ _ _ _ _ _ _)
      | (with_reducible exact ih1 _ _ _ _ _ _ _ _ _)
      | (with_reducible exact ih2 _ _ _ _ _ _ _ _)
      | (with_reducible exact ih3 _ _ _ _ _ _ _ _ _ _)
      | (with_reducible exact ih4 _ _ _ _ _ _ _ _ _ _)
      | (with_reducible exact ih5 _ _ _ _ _ _ _ _ _)
      | (with_reducible exact LeO.refl _)
      | (with_reducible exact LeO.none _)
      | (with_reducible refine LeO.ite ?_ ?_)
      | (with_reducible refine LeO.bind ?_ (fun _ => ?_))
      | exact ih0 _ _ _ _ _ _ _ _ _ _
      | exact ih1 _ _ _ _ _ _ _ _ _
      | exact ih2 _ _ _ _ _ _ _ _
      | exact ih3 _ _ _ _ _ _ _ _ _ _
      | exact ih4 _ _ _ _ _ _ _ _ _ _
      | exact ih5 _ _ _ _ _ _ _ _ _
      | exact LeO.none _
      | refine LeO.ite ?_ ?_
      | refine LeO.bind ?_ (fun _ => ?_)
    · intro y0 y1 y2 y3 y4 y5 y6 y7 y8
      unfold gasworkslaw13_ScaleCheaper.j1
      repeat' first
      | (with_reducible exact ih0 _ _ _ _ _ _ _ _ _ _)
      | (with_reducible exact ih1 _ _ _ _ _ _ _ _ _)
      | (with_reducible exact ih2 _ _ _ _ _ _ _ _)
      | (with_reducible exact ih3 _ _ _ _ _ _ _ _ _ _)
      | (with_reducible exact ih4 _ _ _ _ _ _ _ _ _ _)
      | (with_reducible exact ih5 _ _ _ _ _ _ _ _ _)
      | (with_reducible exact LeO.refl _)
      | (with_reducible exact LeO.none _)
      | (with_reducible refine LeO.ite ?_ ?_)
      | (with_reducible refine LeO.bind ?_ (fun _ => ?_))
      | exact ih0 _ _ _ _ _ _ _ _ _ _
      | exact ih1 _ _ _ _ _ _ _ _ _
      | exact ih2 _ _ _ _ _ _ _ _
      | exact ih3 _ _ _ _ _ _ _ _ _ _
      | exact ih4 _ _ _ _ _ _ _ _ _ _
      | exact ih5 _ _ _ _ _ _ _ _ _
      | exact LeO.none _
      | refine LeO.ite ?_ ?_
      | refine LeO.bind ?_ (fun _ => ?_)
    · intro y0 y1 y2 y3 y4 y5 y6 y7
      unfold gasworkslaw13_ScaleCheaper.j3
      repeat' first
      | (with_reducible exact ih0 _ _ _ _ _ _ _ _ _ _)
      | (with_reducible exact ih1 _ _ _ _ _ _ _ _ _)
      | (with_reducible exact ih2 _ _ _ _ _ _ _ _)
      | (with_reducible exact ih3 _ _ _ _ _ _ _ _ _ _)
      | (with_reducible exact ih4 _ _ _ _ _ _ _ _ _ _)
      | (with_reducible exact ih5 _ _ _ _ _ _ _ _ _)
      | (with_reducible exact LeO.refl _)
      | (with_reducible exact LeO.none _)
      | (with_reducible refine LeO.ite ?_ ?_)
      | (with_reducible refine LeO.bind ?_ (fun _ => ?_))
      | exact ih0 _ _ _ _ _ _ _ _ _ _
      | exact ih1 _ _ _ _ _ _ _ _ _
      | exact ih2 _ _ _ _ _ _ _ _
      | exact ih3 _ _ _ _ _ _ _ _ _ _
      | exact ih4 _ _ _ _ _ _ _ _ _ _
      | exact ih5 _ _ _ _ _ _ _ _ _
      | exact LeO.none _
      | refine LeO.ite ?_ ?_
      | refine LeO.bind ?_ (fun _ => ?_)
    · intro y0 y1 y2 y3 y4 y5 y6 y7 y8 y9
      unfold gasworkslaw13_ScaleCheaper.j4
      repeat' first
      | (with_reducible exact ih0 _ _ _ _ _ _ _ _ _ _)
      | (with_reducible exact ih1 _ _ _ _ _ _ _ _ _)
      | (with_reducible exact ih2 _ _ _ _ _ _ _ _)
      | (with_reducible exact ih3 _ _ _ _ _ _ _ _ _ _)
      | (with_reducible exact ih4 _ _ _ _ _ _ _ _ _ _)
      | (with_reducible exact ih5 _ _ _ _ _ _ _ _ _)
      | (with_reducible exact LeO.refl _)
      | (with_reducible exact LeO.none _)
      | (with_reducible refine LeO.ite ?_ ?_)
      | (with_reducible refine LeO.bind ?_ (fun _ => ?_))
      | exact ih0 _ _ _ _ _ _ _ _ _ _
      | exact ih1 _ _ _ _ _ _ _ _ _
      | exact ih2 _ _ _ _ _ _ _ _
      | exact ih3 _ _ _ _ _ _ _ _ _ _
      | exact ih4 _ _ _ _ _ _ _ _ _ _
      | exact ih5 _ _ _ _ _ _ _ _ _
      | exact LeO.none _
      | refine LeO.ite ?_ ?_
      | refine LeO.bind ?_ (fun _ => ?_)
    · intro y0 y1 y2 y3 y4 y5 y6 y7 y8 y9
      unfold gasworkslaw13_ScaleCheaper.j5
      repeat' first
      | (with_reducible exact ih0 _ _ _ _ _ _ _ _ _ _)
      | (with_reducible exact ih1 _ _ _ _ _ _ _ _ _)
      | (with_reducible exact ih2 _ _ _ _ _ _ _ _)
      | (with_reducible exact ih3 _ _ _ _ _ _ _ _ _ _)
      | (with_reducible exact ih4 _ _ _ _ _ _ _ _ _ _)
      | (with_reducible exact ih5 _ _ _ _ _ _ _ _ _)
      | (with_reducible exact LeO.refl _)
      | (with_reducible exact LeO.none _)
      | (with_reducible refine LeO.ite ?_ ?_)
      | (with_reducible refine LeO.bind ?_ (fun _ => ?_))
      | exact ih0 _ _ _ _ _ _ _ _ _ _
      | exact ih1 _ _ _ _ _ _ _ _ _
      | exact ih2 _ _ _ _ _ _ _ _
      | exact ih3 _ _ _ _ _ _ _ _ _ _
      | exact ih4 _ _ _ _ _ _ _ _ _ _
      | exact ih5 _ _ _ _ _ _ _ _ _
      | exact LeO.none _
      | refine LeO.ite ?_ ?_
      | refine LeO.bind ?_ (fun _ => ?_)
    · intro y0 y1 y2 y3 y4 y5 y6 y7 y8
      unfold gasworkslaw13_ScaleCheaper.j2
      repeat' first
      | (with_reducible exact ih0 _ _ _ _ _ _ _ _ _ _)
      | (with_reducible exact ih1 _ _ _ _ _ _ _ _ _)
      | (with_reducible exact ih2 _ _ _ _ _ _ _ _)
      | (with_reducible exact ih3 _ _ _ _ _ _ _ _ _ _)
      | (with_reducible exact ih4 _ _ _ _ _ _ _ _ _ _)
      | (with_reducible exact ih5 _ _ _ _ _ _ _ _ _)
      | (with_reducible exact LeO.refl _)
      | (with_reducible exact LeO.none _)
      | (with_reducible refine LeO.ite ?_ ?_)
      | (with_reducible refine LeO.bind ?_ (fun _ => ?_))
      | exact ih0 _ _ _ _ _ _ _ _ _ _
      | exact ih1 _ _ _ _ _ _ _ _ _
      | exact ih2 _ _ _ _ _ _ _ _
      | exact ih3 _ _ _ _ _ _ _ _ _ _
      | exact ih4 _ _ _ _ _ _ _ _ _ _
      | exact ih5 _ _ _ _ _ _ _ _ _
      | exact LeO.none _
      | refine LeO.ite ?_ ?_
      | refine LeO.bind ?_ (fun _ => ?_)
theorem gasworkslaw13_ScaleCheaper.mono : ∀ a0 a1 a2 a3 a4 a5 a6 a7 k, LeO (gasworkslaw13_ScaleCheaper.f k a0 a1 a2 a3 a4 a5 a6 a7) (gasworkslaw13_ScaleCheaper.f (k + 1) a0 a1 a2 a3 a4 a5 a6 a7) := by
  intro a0 a1 a2 a3 a4 a5 a6 a7 k
  obtain ⟨ih0, ih1, ih2, ih3, ih4, ih5⟩ := gasworkslaw13_ScaleCheaper.mono_l k
  unfold gasworkslaw13_ScaleCheaper.f
  repeat' first
      | (with_reducible exact ih0 _ _ _ _ _ _ _ _ _ _)
      | (with_reducible exact ih1 _ _ _ _ _ _ _ _ _)
      | (with_reducible exact ih2 _ _ _ _ _ _ _ _)
      | (with_reducible exact ih3 _ _ _ _ _ _ _ _ _ _)
      | (with_reducible exact ih4 _ _ _ _ _ _ _ _ _ _)
      | (with_reducible exact ih5 _ _ _ _ _ _ _ _ _)
      | (with_reducible exact LeO.refl _)
      | (with_reducible exact LeO.none _)
      | (with_reducible refine LeO.ite ?_ ?_)
      | (with_reducible refine LeO.bind ?_ (fun _ => ?_))
      | exact ih0 _ _ _ _ _ _ _ _ _ _
      | exact ih1 _ _ _ _ _ _ _ _ _
      | exact ih2 _ _ _ _ _ _ _ _
      | exact ih3 _ _ _ _ _ _ _ _ _ _
      | exact ih4 _ _ _ _ _ _ _ _ _ _
      | exact ih5 _ _ _ _ _ _ _ _ _
      | exact LeO.none _
      | refine LeO.ite ?_ ?_
      | refine LeO.bind ?_ (fun _ => ?_)
set_option maxHeartbeats 8000000 in
set_option maxRecDepth 100000 in
theorem gasworkslaw13_ScaleCheaper.calls (k : Nat) (a0_0 : Int) (a0_1 : Int) (a0_2 : Int) (a0_3 : Int) (a0_4 : Int) (a0_5 : Int) (a1 : Int) (a2 : Int) (r : Bool) (w : World) (h : gasworkslaw13_ScaleCheaper.f k a0_0 a0_1 a0_2 a0_3 a0_4 a0_5 a1 a2 = some r) (hr_ : r = true) :
    Calls Try.prog 7 #[.agg #[.int .i64 a0_0, .int .i64 a0_1, .int .i64 a0_2, .int .i64 a0_3, .int .i64 a0_4, .int .i64 a0_5], .int .i64 a1, .int .u16 a2] w fun e w' => e = .returned (.bool r) ∧ Below w.heap.size w w' := by
  have hu23 := Try.underlying23
  have HB := Aside0.mk (Below.refl w.heap.size w)
  have H : ((scale_Rate.f a0_0 a0_1 a0_2 a0_3 a0_4 a0_5 a1).bind fun bt301 => (if bt301.2 = 0 then ((gasworksref13_Act.f a0_0 a0_1 a0_2 a0_3 a0_4 a0_5).bind fun t305 => (if t305 = true then (if bt301.1 < 0 then (gasworkslaw13_ScaleCheaper.j0 k a1 a2 bt301.1 true a0_0 a0_1 a0_2 a0_3 a0_4 a0_5) else (gasworkslaw13_ScaleCheaper.j0 k a1 a2 bt301.1 (decide (bt301.1 > 10000)) a0_0 a0_1 a0_2 a0_3 a0_4 a0_5)) else (gasworkslaw13_ScaleCheaper.j0 k a1 a2 bt301.1 true a0_0 a0_1 a0_2 a0_3 a0_4 a0_5))) else (if bt301.1 = 0 then ((gasworksref13_Act.f a0_0 a0_1 a0_2 a0_3 a0_4 a0_5).bind fun t303 => (if ((bt301.2 == 1) == (!t303)) = true then ((gasworkslaw13_alive.f).bind fun t304 => (some t304)) else (some false))) else (some false)))) = some r := h
  clear h
  replace H := Option.bind_eq_some_iff.mp H
  obtain ⟨⟨t301, t302⟩, A40, H⟩ := H
  replace H : (if t302 = 0 then ((gasworksref13_Act.f a0_0 a0_1 a0_2 a0_3 a0_4 a0_5).bind fun t305 => (if t305 = true then (if t301 < 0 then (gasworkslaw13_ScaleCheaper.j0 k a1 a2 t301 true a0_0 a0_1 a0_2 a0_3 a0_4 a0_5) else (gasworkslaw13_ScaleCheaper.j0 k a1 a2 t301 (decide (t301 > 10000)) a0_0 a0_1 a0_2 a0_3 a0_4 a0_5)) else (gasworkslaw13_ScaleCheaper.j0 k a1 a2 t301 true a0_0 a0_1 a0_2 a0_3 a0_4 a0_5))) else (if t301 = 0 then ((gasworksref13_Act.f a0_0 a0_1 a0_2 a0_3 a0_4 a0_5).bind fun t303 => (if ((t302 == 1) == (!t303)) = true then ((gasworkslaw13_alive.f).bind fun t304 => (some t304)) else (some false))) else (some false))) = some r := H
  have A4 := Aside0.mk A40
  clear A40
  by_cases c5 : t302 = 0
  · rw [if_pos c5] at H
    have c5b0 : (t302 == 0) = true := beq_iff_eq.mpr c5
    have c5b1 : (t302 != 0) = false := bne_eq_false_iff_eq.mpr c5
    clear c5
    have HC6 := Aside0.mk H
    clear H
    go_enter Try.func7, Try.ntmps7
    go_upto_region 4 with (first | ((with_reducible refine gate_dst (N := 3) rfl ?_); refine box_event ?hg (N := 3) ?hd (cs := #[.int .i64 a0_0, .int .i64 a0_1, .int .i64 a0_2, .int .i64 a0_3, .int .i64 a0_4, .int .i64 a0_5]) (t := 23) ?hr ?_; (case hd => rfl); (case hg => rfl); (case hr => first | (go_simp; done) | (go_simp; rfl)); intro gb300 hg w7 hbox hb; have n0_ := Aside0.mk (below_step (by repeat (first | (with_reducible first | exact HB.out | apply below_alloc | apply pw_below_drewN | apply below_drew1) | exact HB.out)) hb); have n1_ := Aside0.mk (hbox); have n2_ := Aside0.mk ((by rw [hg]; exact (below_size (by repeat (first | (with_reducible first | exact HB.out | apply below_alloc | apply pw_below_drewN | apply below_drew1) | exact HB.out))) : w.heap.size ≤ gb300)); have n3_ := Aside0.mk ((by rw [hg]; exact (below_size (by repeat (first | (with_reducible first | exact HB.out | apply below_alloc | apply pw_below_drewN | apply below_drew1) | exact HB.out))) : w.heap.size ≤ gb300)); clear HB; have HB := n0_; have BK300 := n1_; have GW300 := n2_; have GE300 := n3_; clear n0_ n1_ n2_ n3_; clear hb hbox hg; have hcz8_0 : w7.cell? ⟨gb300, 0, none⟩ = some (.int .i64 a0_0) := (blk_cell BK300.out 0).trans rfl; have hcz8_1 : w7.cell? ⟨gb300, 1, none⟩ = some (.int .i64 a0_1) := (blk_cell BK300.out 1).trans rfl; have hcz8_2 : w7.cell? ⟨gb300, 2, none⟩ = some (.int .i64 a0_2) := (blk_cell BK300.out 2).trans rfl; have hcz8_3 : w7.cell? ⟨gb300, 3, none⟩ = some (.int .i64 a0_3) := (blk_cell BK300.out 3).trans rfl; have hcz8_4 : w7.cell? ⟨gb300, 4, none⟩ = some (.int .i64 a0_4) := (blk_cell BK300.out 4).trans rfl; have hcz8_5 : w7.cell? ⟨gb300, 5, none⟩ = some (.int .i64 a0_5) := (blk_cell BK300.out 5).trans rfl; have hfz8_0 := blk_frozen BK300.out 0; have hfz8_1 := blk_frozen BK300.out 1; have hfz8_2 := blk_frozen BK300.out 2; have hfz8_3 := blk_frozen BK300.out 3; have hfz8_4 := blk_frozen BK300.out 4; have hfz8_5 := blk_frozen BK300.out 5) | ((with_reducible refine gate_callee (f := 10) rfl ?_); refine goesL_ (some 26) rfl rfl Try.func10 (by kernel_rfl) rfl #[.agg #[.int .i64 a0_0, .int .i64 a0_1, .int .i64 a0_2, .int .i64 a0_3, .int .i64 a0_4, .int .i64 a0_5], .int .i64 a1] rfl (by (try simp only [List.map_toArray, List.map_cons, List.map_nil]); first | done | rfl | (simp only [List.length_drop, List.length_take]; rfl)) ?_; (with_reducible refine (scale_Rate.calls a0_0 a0_1 a0_2 a0_3 a0_4 a0_5 a1 t301 t302 _ A4.out).mono ?_); rintro e w9 ⟨rfl, hb⟩; refine ⟨_, rfl, ?_⟩; have n0_ := Aside0.mk (blk_below (g := gb300) (o := .cells #[.int .i64 a0_0, .int .i64 a0_1, .int .i64 a0_2, .int .i64 a0_3, .int .i64 a0_4, .int .i64 a0_5] 23 (0, 0)) (by (with_reducible repeat (first | refine blk_drewN ?_ _ | refine blk_drew ?_ | refine blk_alloc ?_ _)); exact BK300.out) hb); have n1_ := Aside0.mk (below_step (by repeat (first | (with_reducible first | exact HB.out | apply below_alloc | apply pw_below_drewN | apply below_drew1 | refine below_set ?_ GE300.out) | exact HB.out)) hb); clear BK300; clear HB; have BK300 := n0_; have HB := n1_; clear n0_ n1_; (try clear hb); (try clear hb2); (try clear hk); (try clear hi)))
    (try simp only [Act.put, List.setIfInBounds_toArray, List.set_cons_zero, List.set_cons_succ])
    go_cut [54] (fun v54 wc => ∃ (kq : Nat) (x54_5 : Bool), v54 = .bool x54_5 ∧ Aside0 (gasworkslaw13_ScaleCheaper.j0 kq a1 a2 t301 x54_5 a0_0 a0_1 a0_2 a0_3 a0_4 a0_5 = some r) ∧ Aside0 (kq ≤ k) ∧ Aside0 (wc.heap[gb300]? = some (.cells #[.int .i64 a0_0, .int .i64 a0_1, .int .i64 a0_2, .int .i64 a0_3, .int .i64 a0_4, .int .i64 a0_5] 23 (0, 0))) ∧ Aside0 (Below w.heap.size w wc))
    case first => as_aux_lemma =>
      have H := HC6.out
      clear HC6
      replace H := Option.bind_eq_some_iff.mp H
      obtain ⟨t305, A100, H⟩ := H
      replace H : (if t305 = true then (if t301 < 0 then (gasworkslaw13_ScaleCheaper.j0 k a1 a2 t301 true a0_0 a0_1 a0_2 a0_3 a0_4 a0_5) else (gasworkslaw13_ScaleCheaper.j0 k a1 a2 t301 (decide (t301 > 10000)) a0_0 a0_1 a0_2 a0_3 a0_4 a0_5)) else (gasworkslaw13_ScaleCheaper.j0 k a1 a2 t301 true a0_0 a0_1 a0_2 a0_3 a0_4 a0_5)) = some r := H
      have A10 := Aside0.mk A100
      clear A100
      by_cases c11 : t305 = true
      · subst c11
        have H1 : (if t301 < 0 then (gasworkslaw13_ScaleCheaper.j0 k a1 a2 t301 true a0_0 a0_1 a0_2 a0_3 a0_4 a0_5) else (gasworkslaw13_ScaleCheaper.j0 k a1 a2 t301 (decide (t301 > 10000)) a0_0 a0_1 a0_2 a0_3 a0_4 a0_5)) = some r := by rw [if_pos rfl] at H; exact H
        clear H
        have H := H1
        clear H1
        by_cases c12 : t301 < 0
        · rw [if_pos c12] at H
          have c12b0 : decide (t301 < 0) = true := decide_eq_true c12
          clear c12
          (first | rw [c12b0] | (simp only [i64_w, i32_w]; rw [c12b0]) | skip)
          have H' := Aside0.mk H
          clear H
          have hcz13_0 : w9.cell? ⟨gb300, 0, none⟩ = some (.int .i64 a0_0) := (blk_cell BK300.out 0).trans rfl
          have hcz13_1 : w9.cell? ⟨gb300, 1, none⟩ = some (.int .i64 a0_1) := (blk_cell BK300.out 1).trans rfl
          have hcz13_2 : w9.cell? ⟨gb300, 2, none⟩ = some (.int .i64 a0_2) := (blk_cell BK300.out 2).trans rfl
          have hcz13_3 : w9.cell? ⟨gb300, 3, none⟩ = some (.int .i64 a0_3) := (blk_cell BK300.out 3).trans rfl
          have hcz13_4 : w9.cell? ⟨gb300, 4, none⟩ = some (.int .i64 a0_4) := (blk_cell BK300.out 4).trans rfl
          have hcz13_5 : w9.cell? ⟨gb300, 5, none⟩ = some (.int .i64 a0_5) := (blk_cell BK300.out 5).trans rfl
          have hfz13_0 := blk_frozen BK300.out 0
          have hfz13_1 := blk_frozen BK300.out 1
          have hfz13_2 := blk_frozen BK300.out 2
          have hfz13_3 := blk_frozen BK300.out 3
          have hfz13_4 := blk_frozen BK300.out 4
          have hfz13_5 := blk_frozen BK300.out 5
          go_wp2_with (first | ((with_reducible refine gate_callee (f := 23) rfl ?_); refine goesL_ (some 45) rfl rfl Try.func23 (by kernel_rfl) rfl #[.agg #[.int .i64 a0_0, .int .i64 a0_1, .int .i64 a0_2, .int .i64 a0_3, .int .i64 a0_4, .int .i64 a0_5]] rfl (by (try simp only [List.map_toArray, List.map_cons, List.map_nil]); first | done | rfl | (simp only [List.length_drop, List.length_take]; rfl)) ?_; (with_reducible refine (gasworksref13_Act.calls a0_0 a0_1 a0_2 a0_3 a0_4 a0_5 true _ A10.out).mono ?_); rintro e w14 ⟨rfl, hb⟩; refine ⟨_, rfl, ?_⟩; have n0_ := Aside0.mk (blk_below (g := gb300) (o := .cells #[.int .i64 a0_0, .int .i64 a0_1, .int .i64 a0_2, .int .i64 a0_3, .int .i64 a0_4, .int .i64 a0_5] 23 (0, 0)) (by (with_reducible repeat (first | refine blk_drewN ?_ _ | refine blk_drew ?_ | refine blk_alloc ?_ _)); exact BK300.out) hb); have n1_ := Aside0.mk (below_step (by repeat (first | (with_reducible first | exact HB.out | apply below_alloc | apply pw_below_drewN | apply below_drew1 | refine below_set ?_ GE300.out) | exact HB.out)) hb); clear BK300; clear HB; have BK300 := n0_; have HB := n1_; clear n0_ n1_; (try clear hb); (try clear hb2); (try clear hk); (try clear hi)))
          go_meet
          case rel => exact ⟨_, (true), (by first | rfl | (simp; done) | (simp [*]; done)), H', ⟨by first | omega | exact Nat.le_refl _⟩, ⟨by (with_reducible repeat (first | refine blk_drewN ?_ _ | refine blk_drew ?_ | refine blk_alloc ?_ _)); exact BK300.out⟩, ⟨by repeat (first | (with_reducible first | exact HB.out | apply below_alloc | apply pw_below_drewN | apply below_drew1 | refine below_set ?_ GE300.out) | exact HB.out)⟩⟩
        · rw [if_neg c12] at H
          have c12b0 : decide (t301 < 0) = false := decide_eq_false c12
          clear c12
          (first | rw [c12b0] | (simp only [i64_w, i32_w]; rw [c12b0]) | skip)
          have H' := Aside0.mk H
          clear H
          have hcz15_0 : w9.cell? ⟨gb300, 0, none⟩ = some (.int .i64 a0_0) := (blk_cell BK300.out 0).trans rfl
          have hcz15_1 : w9.cell? ⟨gb300, 1, none⟩ = some (.int .i64 a0_1) := (blk_cell BK300.out 1).trans rfl
          have hcz15_2 : w9.cell? ⟨gb300, 2, none⟩ = some (.int .i64 a0_2) := (blk_cell BK300.out 2).trans rfl
          have hcz15_3 : w9.cell? ⟨gb300, 3, none⟩ = some (.int .i64 a0_3) := (blk_cell BK300.out 3).trans rfl
          have hcz15_4 : w9.cell? ⟨gb300, 4, none⟩ = some (.int .i64 a0_4) := (blk_cell BK300.out 4).trans rfl
          have hcz15_5 : w9.cell? ⟨gb300, 5, none⟩ = some (.int .i64 a0_5) := (blk_cell BK300.out 5).trans rfl
          have hfz15_0 := blk_frozen BK300.out 0
          have hfz15_1 := blk_frozen BK300.out 1
          have hfz15_2 := blk_frozen BK300.out 2
          have hfz15_3 := blk_frozen BK300.out 3
          have hfz15_4 := blk_frozen BK300.out 4
          have hfz15_5 := blk_frozen BK300.out 5
          go_wp2_with (first | ((with_reducible refine gate_callee (f := 23) rfl ?_); refine goesL_ (some 45) rfl rfl Try.func23 (by kernel_rfl) rfl #[.agg #[.int .i64 a0_0, .int .i64 a0_1, .int .i64 a0_2, .int .i64 a0_3, .int .i64 a0_4, .int .i64 a0_5]] rfl (by (try simp only [List.map_toArray, List.map_cons, List.map_nil]); first | done | rfl | (simp only [List.length_drop, List.length_take]; rfl)) ?_; (with_reducible refine (gasworksref13_Act.calls a0_0 a0_1 a0_2 a0_3 a0_4 a0_5 true _ A10.out).mono ?_); rintro e w16 ⟨rfl, hb⟩; refine ⟨_, rfl, ?_⟩; have n0_ := Aside0.mk (blk_below (g := gb300) (o := .cells #[.int .i64 a0_0, .int .i64 a0_1, .int .i64 a0_2, .int .i64 a0_3, .int .i64 a0_4, .int .i64 a0_5] 23 (0, 0)) (by (with_reducible repeat (first | refine blk_drewN ?_ _ | refine blk_drew ?_ | refine blk_alloc ?_ _)); exact BK300.out) hb); have n1_ := Aside0.mk (below_step (by repeat (first | (with_reducible first | exact HB.out | apply below_alloc | apply pw_below_drewN | apply below_drew1 | refine below_set ?_ GE300.out) | exact HB.out)) hb); clear BK300; clear HB; have BK300 := n0_; have HB := n1_; clear n0_ n1_; (try clear hb); (try clear hb2); (try clear hk); (try clear hi)))
          go_meet
          case rel => exact ⟨_, (decide (t301 > 10000)), (by first | rfl | (simp; done) | (simp [*]; done)), H', ⟨by first | omega | exact Nat.le_refl _⟩, ⟨by (with_reducible repeat (first | refine blk_drewN ?_ _ | refine blk_drew ?_ | refine blk_alloc ?_ _)); exact BK300.out⟩, ⟨by repeat (first | (with_reducible first | exact HB.out | apply below_alloc | apply pw_below_drewN | apply below_drew1 | refine below_set ?_ GE300.out) | exact HB.out)⟩⟩
      · replace c11 := Bool.eq_false_iff.mpr c11
        subst c11
        have H1 : (gasworkslaw13_ScaleCheaper.j0 k a1 a2 t301 true a0_0 a0_1 a0_2 a0_3 a0_4 a0_5) = some r := by rw [if_neg (show ¬ (false = true) by decide)] at H; exact H
        clear H
        have H := H1
        clear H1
        have H' := Aside0.mk H
        clear H
        have hcz17_0 : w9.cell? ⟨gb300, 0, none⟩ = some (.int .i64 a0_0) := (blk_cell BK300.out 0).trans rfl
        have hcz17_1 : w9.cell? ⟨gb300, 1, none⟩ = some (.int .i64 a0_1) := (blk_cell BK300.out 1).trans rfl
        have hcz17_2 : w9.cell? ⟨gb300, 2, none⟩ = some (.int .i64 a0_2) := (blk_cell BK300.out 2).trans rfl
        have hcz17_3 : w9.cell? ⟨gb300, 3, none⟩ = some (.int .i64 a0_3) := (blk_cell BK300.out 3).trans rfl
        have hcz17_4 : w9.cell? ⟨gb300, 4, none⟩ = some (.int .i64 a0_4) := (blk_cell BK300.out 4).trans rfl
        have hcz17_5 : w9.cell? ⟨gb300, 5, none⟩ = some (.int .i64 a0_5) := (blk_cell BK300.out 5).trans rfl
        have hfz17_0 := blk_frozen BK300.out 0
        have hfz17_1 := blk_frozen BK300.out 1
        have hfz17_2 := blk_frozen BK300.out 2
        have hfz17_3 := blk_frozen BK300.out 3
        have hfz17_4 := blk_frozen BK300.out 4
        have hfz17_5 := blk_frozen BK300.out 5
        go_wp2_with (first | ((with_reducible refine gate_callee (f := 23) rfl ?_); refine goesL_ (some 45) rfl rfl Try.func23 (by kernel_rfl) rfl #[.agg #[.int .i64 a0_0, .int .i64 a0_1, .int .i64 a0_2, .int .i64 a0_3, .int .i64 a0_4, .int .i64 a0_5]] rfl (by (try simp only [List.map_toArray, List.map_cons, List.map_nil]); first | done | rfl | (simp only [List.length_drop, List.length_take]; rfl)) ?_; (with_reducible refine (gasworksref13_Act.calls a0_0 a0_1 a0_2 a0_3 a0_4 a0_5 false _ A10.out).mono ?_); rintro e w18 ⟨rfl, hb⟩; refine ⟨_, rfl, ?_⟩; have n0_ := Aside0.mk (blk_below (g := gb300) (o := .cells #[.int .i64 a0_0, .int .i64 a0_1, .int .i64 a0_2, .int .i64 a0_3, .int .i64 a0_4, .int .i64 a0_5] 23 (0, 0)) (by (with_reducible repeat (first | refine blk_drewN ?_ _ | refine blk_drew ?_ | refine blk_alloc ?_ _)); exact BK300.out) hb); have n1_ := Aside0.mk (below_step (by repeat (first | (with_reducible first | exact HB.out | apply below_alloc | apply pw_below_drewN | apply below_drew1 | refine below_set ?_ GE300.out) | exact HB.out)) hb); clear BK300; clear HB; have BK300 := n0_; have HB := n1_; clear n0_ n1_; (try clear hb); (try clear hb2); (try clear hk); (try clear hi)))
        go_meet
        case rel => exact ⟨_, (true), (by first | rfl | (simp; done) | (simp [*]; done)), H', ⟨by first | omega | exact Nat.le_refl _⟩, ⟨by (with_reducible repeat (first | refine blk_drewN ?_ _ | refine blk_drew ?_ | refine blk_alloc ?_ _)); exact BK300.out⟩, ⟨by repeat (first | (with_reducible first | exact HB.out | apply below_alloc | apply pw_below_drewN | apply below_drew1 | refine below_set ?_ GE300.out) | exact HB.out)⟩⟩
    case rest => as_aux_lemma =>
      clear HC6
      try clear c1
      try clear c2
      try clear p2
      try clear c5
      try clear c5b0
      try clear c5b1
      try clear c7
      try clear c10
      try clear c11
      try clear c12
      try clear c12b0
      try clear hcz13_0
      try clear hcz13_1
      try clear hcz13_2
      try clear hcz13_3
      try clear hcz13_4
      try clear hcz13_5
      try clear hcz15_0
      try clear hcz15_1
      try clear hcz15_2
      try clear hcz15_3
      try clear hcz15_4
      try clear hcz15_5
      try clear hcz17_0
      try clear hcz17_1
      try clear hcz17_2
      try clear hcz17_3
      try clear hcz17_4
      try clear hcz17_5
      try clear hcz8_0
      try clear hcz8_1
      try clear hcz8_2
      try clear hcz8_3
      try clear hcz8_4
      try clear hcz8_5
      try clear hfz13_0
      try clear hfz13_1
      try clear hfz13_2
      try clear hfz13_3
      try clear hfz13_4
      try clear hfz13_5
      try clear hfz15_0
      try clear hfz15_1
      try clear hfz15_2
      try clear hfz15_3
      try clear hfz15_4
      try clear hfz15_5
      try clear hfz17_0
      try clear hfz17_1
      try clear hfz17_2
      try clear hfz17_3
      try clear hfz17_4
      try clear hfz17_5
      try clear hfz8_0
      try clear hfz8_1
      try clear hfz8_2
      try clear hfz8_3
      try clear hfz8_4
      try clear hfz8_5
      obtain ⟨kq, x54_5, rfl, HA, HJ5, BK300, HB⟩ := hcut
      cases kq with
      | zero => exact absurd HA.out (by simp [gasworkslaw13_ScaleCheaper.j0])
      | succ kj5 =>
        have H := HA.out
        clear HA
        simp only [gasworkslaw13_ScaleCheaper.j0] at H
        by_cases c19 : x54_5 = true
        · subst c19
          have H1 : (some false) = some r := by rw [if_pos rfl] at H; exact H
          clear H
          have H := H1
          clear H1
          exact absurd ((Option.some.inj H).trans hr_) (by decide)
        · replace c19 := Bool.eq_false_iff.mpr c19
          subst c19
          have H1 : ((scale_Rate.f a0_0 a0_1 a0_2 a0_3 a0_4 a0_5 (mx 0 (wrap64 (a1 - (wrap64 (a2)))))).bind fun bt306 => (if bt306.2 = 0 then (gasworkslaw13_ScaleCheaper.j1 kj5 a1 t301 (decide (bt306.1 < t301)) a0_0 a0_1 a0_2 a0_3 a0_4 a0_5) else (gasworkslaw13_ScaleCheaper.j1 kj5 a1 t301 true a0_0 a0_1 a0_2 a0_3 a0_4 a0_5))) = some r := by rw [if_neg (show ¬ (false = true) by decide)] at H; exact H
          clear H
          have H := H1
          clear H1
          obtain ⟨ji20, hji20⟩ : ∃ j_ : Int, (mx 0 (wrap64 (a1 - (wrap64 (a2))))) = j_ := ⟨_, rfl⟩
          replace H : ((scale_Rate.f a0_0 a0_1 a0_2 a0_3 a0_4 a0_5 (ji20)).bind fun bt306 => (if bt306.2 = 0 then (gasworkslaw13_ScaleCheaper.j1 kj5 a1 t301 (decide (bt306.1 < t301)) a0_0 a0_1 a0_2 a0_3 a0_4 a0_5) else (gasworkslaw13_ScaleCheaper.j1 kj5 a1 t301 true a0_0 a0_1 a0_2 a0_3 a0_4 a0_5))) = some r := by first | (rw [hji20] at H; exact H) | (simp only [hji20] at H ⊢; exact H)
          have hji20_ : (if 0 < (wrap64 (a1 - (wrap64 (a2)))) then (wrap64 (a1 - (wrap64 (a2)))) else 0) = ji20 := hji20
          replace H := Option.bind_eq_some_iff.mp H
          obtain ⟨⟨t306, t307⟩, A210, H⟩ := H
          replace H : (if t307 = 0 then (gasworkslaw13_ScaleCheaper.j1 kj5 a1 t301 (decide (t306 < t301)) a0_0 a0_1 a0_2 a0_3 a0_4 a0_5) else (gasworkslaw13_ScaleCheaper.j1 kj5 a1 t301 true a0_0 a0_1 a0_2 a0_3 a0_4 a0_5)) = some r := H
          have A21 := Aside0.mk A210
          clear A210
          have HC22 := Aside0.mk H
          clear H
          have hcz23_0 : wc.cell? ⟨gb300, 0, none⟩ = some (.int .i64 a0_0) := (blk_cell BK300.out 0).trans rfl
          have hcz23_1 : wc.cell? ⟨gb300, 1, none⟩ = some (.int .i64 a0_1) := (blk_cell BK300.out 1).trans rfl
          have hcz23_2 : wc.cell? ⟨gb300, 2, none⟩ = some (.int .i64 a0_2) := (blk_cell BK300.out 2).trans rfl
          have hcz23_3 : wc.cell? ⟨gb300, 3, none⟩ = some (.int .i64 a0_3) := (blk_cell BK300.out 3).trans rfl
          have hcz23_4 : wc.cell? ⟨gb300, 4, none⟩ = some (.int .i64 a0_4) := (blk_cell BK300.out 4).trans rfl
          have hcz23_5 : wc.cell? ⟨gb300, 5, none⟩ = some (.int .i64 a0_5) := (blk_cell BK300.out 5).trans rfl
          have hfz23_0 := blk_frozen BK300.out 0
          have hfz23_1 := blk_frozen BK300.out 1
          have hfz23_2 := blk_frozen BK300.out 2
          have hfz23_3 := blk_frozen BK300.out 3
          have hfz23_4 := blk_frozen BK300.out 4
          have hfz23_5 := blk_frozen BK300.out 5
          go_upto_region 7 with (first | ((with_reducible refine gate_callee (f := 10) rfl ?_); refine goesL_ (some 62) rfl rfl Try.func10 (by kernel_rfl) rfl #[.agg #[.int .i64 a0_0, .int .i64 a0_1, .int .i64 a0_2, .int .i64 a0_3, .int .i64 a0_4, .int .i64 a0_5], .int .i64 ji20] rfl (by (try simp only [List.map_toArray, List.map_cons, List.map_nil]); first | done | (simp only [hji20]; rfl) | rfl | (simp only [List.length_drop, List.length_take]; rfl)) ?_; (with_reducible refine (scale_Rate.calls a0_0 a0_1 a0_2 a0_3 a0_4 a0_5 ji20 t306 t307 _ A21.out).mono ?_); rintro e w24 ⟨rfl, hb⟩; refine ⟨_, rfl, ?_⟩; have n0_ := Aside0.mk (blk_below (g := gb300) (o := .cells #[.int .i64 a0_0, .int .i64 a0_1, .int .i64 a0_2, .int .i64 a0_3, .int .i64 a0_4, .int .i64 a0_5] 23 (0, 0)) (by (with_reducible repeat (first | refine blk_drewN ?_ _ | refine blk_drew ?_ | refine blk_alloc ?_ _)); exact BK300.out) hb); have n1_ := Aside0.mk (below_step (by repeat (first | (with_reducible first | exact HB.out | apply below_alloc | apply pw_below_drewN | apply below_drew1 | refine below_set ?_ GE300.out) | exact HB.out)) hb); clear BK300; clear HB; have BK300 := n0_; have HB := n1_; clear n0_ n1_; (try clear hb); (try clear hb2); (try clear hk); (try clear hi)))
          (try simp only [Act.put, List.setIfInBounds_toArray, List.set_cons_zero, List.set_cons_succ])
          go_cut [71] (fun v71 wc => ∃ (kq : Nat) (x71_21 : Bool), v71 = .bool x71_21 ∧ Aside0 (gasworkslaw13_ScaleCheaper.j1 kq a1 t301 x71_21 a0_0 a0_1 a0_2 a0_3 a0_4 a0_5 = some r) ∧ Aside0 (kq ≤ kj5) ∧ Aside0 (wc.heap[gb300]? = some (.cells #[.int .i64 a0_0, .int .i64 a0_1, .int .i64 a0_2, .int .i64 a0_3, .int .i64 a0_4, .int .i64 a0_5] 23 (0, 0))) ∧ Aside0 (Below w.heap.size w wc))
          case first => as_aux_lemma =>
            have H := HC22.out
            clear HC22
            by_cases c25 : t307 = 0
            · rw [if_pos c25] at H
              have c25b0 : (t307 == 0) = true := beq_iff_eq.mpr c25
              have c25b1 : (t307 != 0) = false := bne_eq_false_iff_eq.mpr c25
              clear c25
              (first | rw [c25b0] | (simp only [i64_w, i32_w]; rw [c25b0]) | skip)
              have H' := Aside0.mk H
              clear H
              go_wp2
              go_meet
              case rel => exact ⟨_, (decide (t306 < t301)), (by first | rfl | (simp; done) | (simp [*]; done)), H', ⟨by have := HJ5.out; first | omega | exact Nat.le_refl _⟩, ⟨by (with_reducible repeat (first | refine blk_drewN ?_ _ | refine blk_drew ?_ | refine blk_alloc ?_ _)); exact BK300.out⟩, ⟨by repeat (first | (with_reducible first | exact HB.out | apply below_alloc | apply pw_below_drewN | apply below_drew1 | refine below_set ?_ GE300.out) | exact HB.out)⟩⟩
            · rw [if_neg c25] at H
              have c25b0 : (t307 == 0) = false := beq_eq_false_iff_ne.mpr c25
              have c25b1 : (t307 != 0) = true := bne_iff_ne.mpr c25
              (first | rw [c25b0] | (simp only [i64_w, i32_w]; rw [c25b0]) | skip)
              have H' := Aside0.mk H
              clear H
              go_wp2
              go_meet
              case rel => exact ⟨_, (true), (by first | rfl | (simp; done) | (simp [*]; done)), H', ⟨by have := HJ5.out; first | omega | exact Nat.le_refl _⟩, ⟨by (with_reducible repeat (first | refine blk_drewN ?_ _ | refine blk_drew ?_ | refine blk_alloc ?_ _)); exact BK300.out⟩, ⟨by repeat (first | (with_reducible first | exact HB.out | apply below_alloc | apply pw_below_drewN | apply below_drew1 | refine below_set ?_ GE300.out) | exact HB.out)⟩⟩
          case rest => as_aux_lemma =>
            clear HC22
            try clear c1
            try clear c2
            try clear p2
            try clear c5
            try clear c5b0
            try clear c5b1
            try clear p6
            try clear c7
            try clear c10
            try clear c11
            try clear c12
            try clear c12b0
            try clear c19
            try clear c23
            try clear c25
            try clear c25b0
            try clear c25b1
            try clear hcz13_0
            try clear hcz13_1
            try clear hcz13_2
            try clear hcz13_3
            try clear hcz13_4
            try clear hcz13_5
            try clear hcz15_0
            try clear hcz15_1
            try clear hcz15_2
            try clear hcz15_3
            try clear hcz15_4
            try clear hcz15_5
            try clear hcz17_0
            try clear hcz17_1
            try clear hcz17_2
            try clear hcz17_3
            try clear hcz17_4
            try clear hcz17_5
            try clear hcz23_0
            try clear hcz23_1
            try clear hcz23_2
            try clear hcz23_3
            try clear hcz23_4
            try clear hcz23_5
            try clear hcz8_0
            try clear hcz8_1
            try clear hcz8_2
            try clear hcz8_3
            try clear hcz8_4
            try clear hcz8_5
            try clear hfz13_0
            try clear hfz13_1
            try clear hfz13_2
            try clear hfz13_3
            try clear hfz13_4
            try clear hfz13_5
            try clear hfz15_0
            try clear hfz15_1
            try clear hfz15_2
            try clear hfz15_3
            try clear hfz15_4
            try clear hfz15_5
            try clear hfz17_0
            try clear hfz17_1
            try clear hfz17_2
            try clear hfz17_3
            try clear hfz17_4
            try clear hfz17_5
            try clear hfz23_0
            try clear hfz23_1
            try clear hfz23_2
            try clear hfz23_3
            try clear hfz23_4
            try clear hfz23_5
            try clear hfz8_0
            try clear hfz8_1
            try clear hfz8_2
            try clear hfz8_3
            try clear hfz8_4
            try clear hfz8_5
            try clear p2
            obtain ⟨kq, x71_21, rfl, HA, HJ21, BK300, HB⟩ := hcut
            cases kq with
            | zero => exact absurd HA.out (by simp [gasworkslaw13_ScaleCheaper.j1])
            | succ kj21 =>
              have H := HA.out
              clear HA
              simp only [gasworkslaw13_ScaleCheaper.j1] at H
              by_cases c26 : x71_21 = true
              · subst c26
                have H1 : (some false) = some r := by rw [if_pos rfl] at H; exact H
                clear H
                have H := H1
                clear H1
                exact absurd ((Option.some.inj H).trans hr_) (by decide)
              · replace c26 := Bool.eq_false_iff.mpr c26
                subst c26
                have H1 : (if a1 ≥ a0_2 then ((scale_Rate.f a0_0 a0_1 a0_2 a0_3 a0_4 a0_5 (wrap64 (a1 - a0_2))).bind fun bt308 => (if bt308.2 = 0 then (if bt308.1 > (wrap64 (t301 + a0_3)) then (gasworkslaw13_ScaleCheaper.j2 kj21 a1 t301 true a0_0 a0_1 a0_2 a0_3 a0_4 a0_5) else (if bt308.1 < t301 then (gasworkslaw13_ScaleCheaper.j2 kj21 a1 t301 true a0_0 a0_1 a0_2 a0_3 a0_4 a0_5) else (if t301 > 0 then (if bt308.1 < 10000 then (gasworkslaw13_ScaleCheaper.j2 kj21 a1 t301 (bt308.1 != (wrap64 (t301 + a0_3))) a0_0 a0_1 a0_2 a0_3 a0_4 a0_5) else (gasworkslaw13_ScaleCheaper.j2 kj21 a1 t301 false a0_0 a0_1 a0_2 a0_3 a0_4 a0_5)) else (gasworkslaw13_ScaleCheaper.j2 kj21 a1 t301 false a0_0 a0_1 a0_2 a0_3 a0_4 a0_5)))) else (gasworkslaw13_ScaleCheaper.j2 kj21 a1 t301 true a0_0 a0_1 a0_2 a0_3 a0_4 a0_5))) else (gasworkslaw13_ScaleCheaper.j3 kj21 a1 t301 a0_0 a0_1 a0_2 a0_3 a0_4 a0_5)) = some r := by rw [if_neg (show ¬ (false = true) by decide)] at H; exact H
                clear H
                have H := H1
                clear H1
                have HC27 := Aside0.mk H
                clear H
                have hcz28_0 : wc.cell? ⟨gb300, 0, none⟩ = some (.int .i64 a0_0) := (blk_cell BK300.out 0).trans rfl
                have hcz28_1 : wc.cell? ⟨gb300, 1, none⟩ = some (.int .i64 a0_1) := (blk_cell BK300.out 1).trans rfl
                have hcz28_2 : wc.cell? ⟨gb300, 2, none⟩ = some (.int .i64 a0_2) := (blk_cell BK300.out 2).trans rfl
                have hcz28_3 : wc.cell? ⟨gb300, 3, none⟩ = some (.int .i64 a0_3) := (blk_cell BK300.out 3).trans rfl
                have hcz28_4 : wc.cell? ⟨gb300, 4, none⟩ = some (.int .i64 a0_4) := (blk_cell BK300.out 4).trans rfl
                have hcz28_5 : wc.cell? ⟨gb300, 5, none⟩ = some (.int .i64 a0_5) := (blk_cell BK300.out 5).trans rfl
                have hfz28_0 := blk_frozen BK300.out 0
                have hfz28_1 := blk_frozen BK300.out 1
                have hfz28_2 := blk_frozen BK300.out 2
                have hfz28_3 := blk_frozen BK300.out 3
                have hfz28_4 := blk_frozen BK300.out 4
                have hfz28_5 := blk_frozen BK300.out 5
                go_upto_if 75 with (fail)
                go_cut [] (fun wc => ∃ (kq : Nat), Aside0 (gasworkslaw13_ScaleCheaper.j3 kq a1 t301 a0_0 a0_1 a0_2 a0_3 a0_4 a0_5 = some r) ∧ Aside0 (kq ≤ kj21) ∧ Aside0 (wc.heap[gb300]? = some (.cells #[.int .i64 a0_0, .int .i64 a0_1, .int .i64 a0_2, .int .i64 a0_3, .int .i64 a0_4, .int .i64 a0_5] 23 (0, 0))) ∧ Aside0 (Below w.heap.size w wc))
                case first => as_aux_lemma =>
                  have H := HC27.out
                  clear HC27
                  by_cases c29 : a1 ≥ a0_2
                  · rw [if_pos c29] at H
                    have c29b0 : decide (a0_2 ≤ a1) = true := decide_eq_true c29
                    clear c29
                    (first | rw [c29b0] | (simp only [i64_w, i32_w]; rw [c29b0]) | skip)
                    replace H := Option.bind_eq_some_iff.mp H
                    obtain ⟨⟨t308, t309⟩, A300, H⟩ := H
                    replace H : (if t309 = 0 then (if t308 > (wrap64 (t301 + a0_3)) then (gasworkslaw13_ScaleCheaper.j2 kj21 a1 t301 true a0_0 a0_1 a0_2 a0_3 a0_4 a0_5) else (if t308 < t301 then (gasworkslaw13_ScaleCheaper.j2 kj21 a1 t301 true a0_0 a0_1 a0_2 a0_3 a0_4 a0_5) else (if t301 > 0 then (if t308 < 10000 then (gasworkslaw13_ScaleCheaper.j2 kj21 a1 t301 (t308 != (wrap64 (t301 + a0_3))) a0_0 a0_1 a0_2 a0_3 a0_4 a0_5) else (gasworkslaw13_ScaleCheaper.j2 kj21 a1 t301 false a0_0 a0_1 a0_2 a0_3 a0_4 a0_5)) else (gasworkslaw13_ScaleCheaper.j2 kj21 a1 t301 false a0_0 a0_1 a0_2 a0_3 a0_4 a0_5)))) else (gasworkslaw13_ScaleCheaper.j2 kj21 a1 t301 true a0_0 a0_1 a0_2 a0_3 a0_4 a0_5)) = some r := H
                    have A30 := Aside0.mk A300
                    clear A300
                    have HC31 := Aside0.mk H
                    clear H
                    have hcz32_0 : wc.cell? ⟨gb300, 0, none⟩ = some (.int .i64 a0_0) := (blk_cell BK300.out 0).trans rfl
                    have hcz32_1 : wc.cell? ⟨gb300, 1, none⟩ = some (.int .i64 a0_1) := (blk_cell BK300.out 1).trans rfl
                    have hcz32_2 : wc.cell? ⟨gb300, 2, none⟩ = some (.int .i64 a0_2) := (blk_cell BK300.out 2).trans rfl
                    have hcz32_3 : wc.cell? ⟨gb300, 3, none⟩ = some (.int .i64 a0_3) := (blk_cell BK300.out 3).trans rfl
                    have hcz32_4 : wc.cell? ⟨gb300, 4, none⟩ = some (.int .i64 a0_4) := (blk_cell BK300.out 4).trans rfl
                    have hcz32_5 : wc.cell? ⟨gb300, 5, none⟩ = some (.int .i64 a0_5) := (blk_cell BK300.out 5).trans rfl
                    have hfz32_0 := blk_frozen BK300.out 0
                    have hfz32_1 := blk_frozen BK300.out 1
                    have hfz32_2 := blk_frozen BK300.out 2
                    have hfz32_3 := blk_frozen BK300.out 3
                    have hfz32_4 := blk_frozen BK300.out 4
                    have hfz32_5 := blk_frozen BK300.out 5
                    go_upto_region 11 with (first | ((with_reducible refine gate_callee (f := 10) rfl ?_); refine goesL_ (some 82) rfl rfl Try.func10 (by kernel_rfl) rfl #[.agg #[.int .i64 a0_0, .int .i64 a0_1, .int .i64 a0_2, .int .i64 a0_3, .int .i64 a0_4, .int .i64 a0_5], .int .i64 (wrap64 (a1 - a0_2))] rfl (by (try simp only [List.map_toArray, List.map_cons, List.map_nil]); first | done | rfl | (simp only [List.length_drop, List.length_take]; rfl)) ?_; (with_reducible refine (scale_Rate.calls a0_0 a0_1 a0_2 a0_3 a0_4 a0_5 (wrap64 (a1 - a0_2)) t308 t309 _ A30.out).mono ?_); rintro e w33 ⟨rfl, hb⟩; refine ⟨_, rfl, ?_⟩; have n0_ := Aside0.mk (blk_below (g := gb300) (o := .cells #[.int .i64 a0_0, .int .i64 a0_1, .int .i64 a0_2, .int .i64 a0_3, .int .i64 a0_4, .int .i64 a0_5] 23 (0, 0)) (by (with_reducible repeat (first | refine blk_drewN ?_ _ | refine blk_drew ?_ | refine blk_alloc ?_ _)); exact BK300.out) hb); have n1_ := Aside0.mk (below_step (by repeat (first | (with_reducible first | exact HB.out | apply below_alloc | apply pw_below_drewN | apply below_drew1 | refine below_set ?_ GE300.out) | exact HB.out)) hb); clear BK300; clear HB; have BK300 := n0_; have HB := n1_; clear n0_ n1_; (try clear hb); (try clear hb2); (try clear hk); (try clear hi)))
                    (try simp only [Act.put, List.setIfInBounds_toArray, List.set_cons_zero, List.set_cons_succ])
                    go_cut [115] (fun v115 wc => ∃ (kq : Nat) (x115_30 : Bool), v115 = .bool x115_30 ∧ Aside0 (gasworkslaw13_ScaleCheaper.j2 kq a1 t301 x115_30 a0_0 a0_1 a0_2 a0_3 a0_4 a0_5 = some r) ∧ Aside0 (kq ≤ kj21) ∧ Aside0 (wc.heap[gb300]? = some (.cells #[.int .i64 a0_0, .int .i64 a0_1, .int .i64 a0_2, .int .i64 a0_3, .int .i64 a0_4, .int .i64 a0_5] 23 (0, 0))) ∧ Aside0 (Below w.heap.size w wc))
                    case first => as_aux_lemma =>
                      have H := HC31.out
                      clear HC31
                      by_cases c34 : t309 = 0
                      · rw [if_pos c34] at H
                        have c34b0 : (t309 == 0) = true := beq_iff_eq.mpr c34
                        have c34b1 : (t309 != 0) = false := bne_eq_false_iff_eq.mpr c34
                        clear c34
                        (first | rw [c34b0] | (simp only [i64_w, i32_w]; rw [c34b0]) | skip)
                        by_cases c35 : t308 > (wrap64 (t301 + a0_3))
                        · rw [if_pos c35] at H
                          have c35b0 : decide ((wrap64 (t301 + a0_3)) < t308) = true := decide_eq_true c35
                          clear c35
                          have H' := Aside0.mk H
                          clear H
                          have hcz36_0 : w33.cell? ⟨gb300, 0, none⟩ = some (.int .i64 a0_0) := (blk_cell BK300.out 0).trans rfl
                          have hcz36_1 : w33.cell? ⟨gb300, 1, none⟩ = some (.int .i64 a0_1) := (blk_cell BK300.out 1).trans rfl
                          have hcz36_2 : w33.cell? ⟨gb300, 2, none⟩ = some (.int .i64 a0_2) := (blk_cell BK300.out 2).trans rfl
                          have hcz36_3 : w33.cell? ⟨gb300, 3, none⟩ = some (.int .i64 a0_3) := (blk_cell BK300.out 3).trans rfl
                          have hcz36_4 : w33.cell? ⟨gb300, 4, none⟩ = some (.int .i64 a0_4) := (blk_cell BK300.out 4).trans rfl
                          have hcz36_5 : w33.cell? ⟨gb300, 5, none⟩ = some (.int .i64 a0_5) := (blk_cell BK300.out 5).trans rfl
                          have hfz36_0 := blk_frozen BK300.out 0
                          have hfz36_1 := blk_frozen BK300.out 1
                          have hfz36_2 := blk_frozen BK300.out 2
                          have hfz36_3 := blk_frozen BK300.out 3
                          have hfz36_4 := blk_frozen BK300.out 4
                          have hfz36_5 := blk_frozen BK300.out 5
                          go_wp2
                          go_meet
                          case rel => exact ⟨_, (true), (by first | rfl | (simp; done) | (simp [*]; done)), H', ⟨by have := HJ5.out; have := HJ21.out; first | omega | exact Nat.le_refl _⟩, ⟨by (with_reducible repeat (first | refine blk_drewN ?_ _ | refine blk_drew ?_ | refine blk_alloc ?_ _)); exact BK300.out⟩, ⟨by repeat (first | (with_reducible first | exact HB.out | apply below_alloc | apply pw_below_drewN | apply below_drew1 | refine below_set ?_ GE300.out) | exact HB.out)⟩⟩
                        · rw [if_neg c35] at H
                          have c35b0 : decide ((wrap64 (t301 + a0_3)) < t308) = false := decide_eq_false c35
                          clear c35
                          by_cases c37 : t308 < t301
                          · rw [if_pos c37] at H
                            have c37b0 : decide (t308 < t301) = true := decide_eq_true c37
                            clear c37
                            have H' := Aside0.mk H
                            clear H
                            have hcz38_0 : w33.cell? ⟨gb300, 0, none⟩ = some (.int .i64 a0_0) := (blk_cell BK300.out 0).trans rfl
                            have hcz38_1 : w33.cell? ⟨gb300, 1, none⟩ = some (.int .i64 a0_1) := (blk_cell BK300.out 1).trans rfl
                            have hcz38_2 : w33.cell? ⟨gb300, 2, none⟩ = some (.int .i64 a0_2) := (blk_cell BK300.out 2).trans rfl
                            have hcz38_3 : w33.cell? ⟨gb300, 3, none⟩ = some (.int .i64 a0_3) := (blk_cell BK300.out 3).trans rfl
                            have hcz38_4 : w33.cell? ⟨gb300, 4, none⟩ = some (.int .i64 a0_4) := (blk_cell BK300.out 4).trans rfl
                            have hcz38_5 : w33.cell? ⟨gb300, 5, none⟩ = some (.int .i64 a0_5) := (blk_cell BK300.out 5).trans rfl
                            have hfz38_0 := blk_frozen BK300.out 0
                            have hfz38_1 := blk_frozen BK300.out 1
                            have hfz38_2 := blk_frozen BK300.out 2
                            have hfz38_3 := blk_frozen BK300.out 3
                            have hfz38_4 := blk_frozen BK300.out 4
                            have hfz38_5 := blk_frozen BK300.out 5
                            go_wp2
                            go_meet
                            case rel => exact ⟨_, (true), (by first | rfl | (simp; done) | (simp [*]; done)), H', ⟨by have := HJ5.out; have := HJ21.out; first | omega | exact Nat.le_refl _⟩, ⟨by (with_reducible repeat (first | refine blk_drewN ?_ _ | refine blk_drew ?_ | refine blk_alloc ?_ _)); exact BK300.out⟩, ⟨by repeat (first | (with_reducible first | exact HB.out | apply below_alloc | apply pw_below_drewN | apply below_drew1 | refine below_set ?_ GE300.out) | exact HB.out)⟩⟩
                          · rw [if_neg c37] at H
                            have c37b0 : decide (t308 < t301) = false := decide_eq_false c37
                            clear c37
                            by_cases c39 : t301 > 0
                            · rw [if_pos c39] at H
                              have c39b0 : decide (0 < t301) = true := decide_eq_true c39
                              clear c39
                              by_cases c40 : t308 < 10000
                              · rw [if_pos c40] at H
                                have c40b0 : decide (t308 < 10000) = true := decide_eq_true c40
                                clear c40
                                have H' := Aside0.mk H
                                clear H
                                have hcz41_0 : w33.cell? ⟨gb300, 0, none⟩ = some (.int .i64 a0_0) := (blk_cell BK300.out 0).trans rfl
                                have hcz41_1 : w33.cell? ⟨gb300, 1, none⟩ = some (.int .i64 a0_1) := (blk_cell BK300.out 1).trans rfl
                                have hcz41_2 : w33.cell? ⟨gb300, 2, none⟩ = some (.int .i64 a0_2) := (blk_cell BK300.out 2).trans rfl
                                have hcz41_3 : w33.cell? ⟨gb300, 3, none⟩ = some (.int .i64 a0_3) := (blk_cell BK300.out 3).trans rfl
                                have hcz41_4 : w33.cell? ⟨gb300, 4, none⟩ = some (.int .i64 a0_4) := (blk_cell BK300.out 4).trans rfl
                                have hcz41_5 : w33.cell? ⟨gb300, 5, none⟩ = some (.int .i64 a0_5) := (blk_cell BK300.out 5).trans rfl
                                have hfz41_0 := blk_frozen BK300.out 0
                                have hfz41_1 := blk_frozen BK300.out 1
                                have hfz41_2 := blk_frozen BK300.out 2
                                have hfz41_3 := blk_frozen BK300.out 3
                                have hfz41_4 := blk_frozen BK300.out 4
                                have hfz41_5 := blk_frozen BK300.out 5
                                go_wp2
                                go_meet
                                case rel => exact ⟨_, ((t308 != (wrap64 (t301 + a0_3)))), (by first | rfl | (simp; done) | (simp [*]; done)), H', ⟨by have := HJ5.out; have := HJ21.out; first | omega | exact Nat.le_refl _⟩, ⟨by (with_reducible repeat (first | refine blk_drewN ?_ _ | refine blk_drew ?_ | refine blk_alloc ?_ _)); exact BK300.out⟩, ⟨by repeat (first | (with_reducible first | exact HB.out | apply below_alloc | apply pw_below_drewN | apply below_drew1 | refine below_set ?_ GE300.out) | exact HB.out)⟩⟩
                              · rw [if_neg c40] at H
                                have c40b0 : decide (t308 < 10000) = false := decide_eq_false c40
                                clear c40
                                have H' := Aside0.mk H
                                clear H
                                have hcz42_0 : w33.cell? ⟨gb300, 0, none⟩ = some (.int .i64 a0_0) := (blk_cell BK300.out 0).trans rfl
                                have hcz42_1 : w33.cell? ⟨gb300, 1, none⟩ = some (.int .i64 a0_1) := (blk_cell BK300.out 1).trans rfl
                                have hcz42_2 : w33.cell? ⟨gb300, 2, none⟩ = some (.int .i64 a0_2) := (blk_cell BK300.out 2).trans rfl
                                have hcz42_3 : w33.cell? ⟨gb300, 3, none⟩ = some (.int .i64 a0_3) := (blk_cell BK300.out 3).trans rfl
                                have hcz42_4 : w33.cell? ⟨gb300, 4, none⟩ = some (.int .i64 a0_4) := (blk_cell BK300.out 4).trans rfl
                                have hcz42_5 : w33.cell? ⟨gb300, 5, none⟩ = some (.int .i64 a0_5) := (blk_cell BK300.out 5).trans rfl
                                have hfz42_0 := blk_frozen BK300.out 0
                                have hfz42_1 := blk_frozen BK300.out 1
                                have hfz42_2 := blk_frozen BK300.out 2
                                have hfz42_3 := blk_frozen BK300.out 3
                                have hfz42_4 := blk_frozen BK300.out 4
                                have hfz42_5 := blk_frozen BK300.out 5
                                go_wp2
                                go_meet
                                case rel => exact ⟨_, (false), (by first | rfl | (simp; done) | (simp [*]; done)), H', ⟨by have := HJ5.out; have := HJ21.out; first | omega | exact Nat.le_refl _⟩, ⟨by (with_reducible repeat (first | refine blk_drewN ?_ _ | refine blk_drew ?_ | refine blk_alloc ?_ _)); exact BK300.out⟩, ⟨by repeat (first | (with_reducible first | exact HB.out | apply below_alloc | apply pw_below_drewN | apply below_drew1 | refine below_set ?_ GE300.out) | exact HB.out)⟩⟩
                            · rw [if_neg c39] at H
                              have c39b0 : decide (0 < t301) = false := decide_eq_false c39
                              clear c39
                              have H' := Aside0.mk H
                              clear H
                              have hcz43_0 : w33.cell? ⟨gb300, 0, none⟩ = some (.int .i64 a0_0) := (blk_cell BK300.out 0).trans rfl
                              have hcz43_1 : w33.cell? ⟨gb300, 1, none⟩ = some (.int .i64 a0_1) := (blk_cell BK300.out 1).trans rfl
                              have hcz43_2 : w33.cell? ⟨gb300, 2, none⟩ = some (.int .i64 a0_2) := (blk_cell BK300.out 2).trans rfl
                              have hcz43_3 : w33.cell? ⟨gb300, 3, none⟩ = some (.int .i64 a0_3) := (blk_cell BK300.out 3).trans rfl
                              have hcz43_4 : w33.cell? ⟨gb300, 4, none⟩ = some (.int .i64 a0_4) := (blk_cell BK300.out 4).trans rfl
                              have hcz43_5 : w33.cell? ⟨gb300, 5, none⟩ = some (.int .i64 a0_5) := (blk_cell BK300.out 5).trans rfl
                              have hfz43_0 := blk_frozen BK300.out 0
                              have hfz43_1 := blk_frozen BK300.out 1
                              have hfz43_2 := blk_frozen BK300.out 2
                              have hfz43_3 := blk_frozen BK300.out 3
                              have hfz43_4 := blk_frozen BK300.out 4
                              have hfz43_5 := blk_frozen BK300.out 5
                              go_wp2
                              go_meet
                              case rel => exact ⟨_, (false), (by first | rfl | (simp; done) | (simp [*]; done)), H', ⟨by have := HJ5.out; have := HJ21.out; first | omega | exact Nat.le_refl _⟩, ⟨by (with_reducible repeat (first | refine blk_drewN ?_ _ | refine blk_drew ?_ | refine blk_alloc ?_ _)); exact BK300.out⟩, ⟨by repeat (first | (with_reducible first | exact HB.out | apply below_alloc | apply pw_below_drewN | apply below_drew1 | refine below_set ?_ GE300.out) | exact HB.out)⟩⟩
                      · rw [if_neg c34] at H
                        have c34b0 : (t309 == 0) = false := beq_eq_false_iff_ne.mpr c34
                        have c34b1 : (t309 != 0) = true := bne_iff_ne.mpr c34
                        (first | rw [c34b0] | (simp only [i64_w, i32_w]; rw [c34b0]) | skip)
                        have H' := Aside0.mk H
                        clear H
                        go_wp2
                        go_meet
                        case rel => exact ⟨_, (true), (by first | rfl | (simp; done) | (simp [*]; done)), H', ⟨by have := HJ5.out; have := HJ21.out; first | omega | exact Nat.le_refl _⟩, ⟨by (with_reducible repeat (first | refine blk_drewN ?_ _ | refine blk_drew ?_ | refine blk_alloc ?_ _)); exact BK300.out⟩, ⟨by repeat (first | (with_reducible first | exact HB.out | apply below_alloc | apply pw_below_drewN | apply below_drew1 | refine below_set ?_ GE300.out) | exact HB.out)⟩⟩
                    case rest => as_aux_lemma =>
                      clear HC31
                      try clear c1
                      try clear c2
                      try clear p2
                      try clear c3
                      try clear c4
                      try clear c5
                      try clear c5b0
                      try clear c5b1
                      try clear p6
                      try clear c7
                      try clear c10
                      try clear c11
                      try clear c12
                      try clear c12b0
                      try clear c19
                      try clear c23
                      try clear c25
                      try clear c25b0
                      try clear c25b1
                      try clear c26
                      try clear c29
                      try clear c29b0
                      try clear c34
                      try clear c34b0
                      try clear c34b1
                      try clear c35
                      try clear c35b0
                      try clear c37
                      try clear c37b0
                      try clear c39
                      try clear c39b0
                      try clear c40
                      try clear c40b0
                      try clear hcz13_0
                      try clear hcz13_1
                      try clear hcz13_2
                      try clear hcz13_3
                      try clear hcz13_4
                      try clear hcz13_5
                      try clear hcz15_0
                      try clear hcz15_1
                      try clear hcz15_2
                      try clear hcz15_3
                      try clear hcz15_4
                      try clear hcz15_5
                      try clear hcz17_0
                      try clear hcz17_1
                      try clear hcz17_2
                      try clear hcz17_3
                      try clear hcz17_4
                      try clear hcz17_5
                      try clear hcz23_0
                      try clear hcz23_1
                      try clear hcz23_2
                      try clear hcz23_3
                      try clear hcz23_4
                      try clear hcz23_5
                      try clear hcz28_0
                      try clear hcz28_1
                      try clear hcz28_2
                      try clear hcz28_3
                      try clear hcz28_4
                      try clear hcz28_5
                      try clear hcz32_0
                      try clear hcz32_1
                      try clear hcz32_2
                      try clear hcz32_3
                      try clear hcz32_4
                      try clear hcz32_5
                      try clear hcz36_0
                      try clear hcz36_1
                      try clear hcz36_2
                      try clear hcz36_3
                      try clear hcz36_4
                      try clear hcz36_5
                      try clear hcz38_0
                      try clear hcz38_1
                      try clear hcz38_2
                      try clear hcz38_3
                      try clear hcz38_4
                      try clear hcz38_5
                      try clear hcz41_0
                      try clear hcz41_1
                      try clear hcz41_2
                      try clear hcz41_3
                      try clear hcz41_4
                      try clear hcz41_5
                      try clear hcz42_0
                      try clear hcz42_1
                      try clear hcz42_2
                      try clear hcz42_3
                      try clear hcz42_4
                      try clear hcz42_5
                      try clear hcz43_0
                      try clear hcz43_1
                      try clear hcz43_2
                      try clear hcz43_3
                      try clear hcz43_4
                      try clear hcz43_5
                      try clear hcz8_0
                      try clear hcz8_1
                      try clear hcz8_2
                      try clear hcz8_3
                      try clear hcz8_4
                      try clear hcz8_5
                      try clear hfz13_0
                      try clear hfz13_1
                      try clear hfz13_2
                      try clear hfz13_3
                      try clear hfz13_4
                      try clear hfz13_5
                      try clear hfz15_0
                      try clear hfz15_1
                      try clear hfz15_2
                      try clear hfz15_3
                      try clear hfz15_4
                      try clear hfz15_5
                      try clear hfz17_0
                      try clear hfz17_1
                      try clear hfz17_2
                      try clear hfz17_3
                      try clear hfz17_4
                      try clear hfz17_5
                      try clear hfz23_0
                      try clear hfz23_1
                      try clear hfz23_2
                      try clear hfz23_3
                      try clear hfz23_4
                      try clear hfz23_5
                      try clear hfz28_0
                      try clear hfz28_1
                      try clear hfz28_2
                      try clear hfz28_3
                      try clear hfz28_4
                      try clear hfz28_5
                      try clear hfz32_0
                      try clear hfz32_1
                      try clear hfz32_2
                      try clear hfz32_3
                      try clear hfz32_4
                      try clear hfz32_5
                      try clear hfz36_0
                      try clear hfz36_1
                      try clear hfz36_2
                      try clear hfz36_3
                      try clear hfz36_4
                      try clear hfz36_5
                      try clear hfz38_0
                      try clear hfz38_1
                      try clear hfz38_2
                      try clear hfz38_3
                      try clear hfz38_4
                      try clear hfz38_5
                      try clear hfz41_0
                      try clear hfz41_1
                      try clear hfz41_2
                      try clear hfz41_3
                      try clear hfz41_4
                      try clear hfz41_5
                      try clear hfz42_0
                      try clear hfz42_1
                      try clear hfz42_2
                      try clear hfz42_3
                      try clear hfz42_4
                      try clear hfz42_5
                      try clear hfz43_0
                      try clear hfz43_1
                      try clear hfz43_2
                      try clear hfz43_3
                      try clear hfz43_4
                      try clear hfz43_5
                      try clear hfz8_0
                      try clear hfz8_1
                      try clear hfz8_2
                      try clear hfz8_3
                      try clear hfz8_4
                      try clear hfz8_5
                      try clear p2
                      try clear p6
                      obtain ⟨kq, x115_30, rfl, HA, HJ30, BK300, HB⟩ := hcut
                      cases kq with
                      | zero => exact absurd HA.out (by simp [gasworkslaw13_ScaleCheaper.j2])
                      | succ kj30 =>
                        have H := HA.out
                        clear HA
                        simp only [gasworkslaw13_ScaleCheaper.j2] at H
                        by_cases c44 : x115_30 = true
                        · subst c44
                          have H1 : (some false) = some r := by rw [if_pos rfl] at H; exact H
                          clear H
                          have H := H1
                          clear H1
                          exact absurd ((Option.some.inj H).trans hr_) (by decide)
                        · replace c44 := Bool.eq_false_iff.mpr c44
                          subst c44
                          have H1 : (gasworkslaw13_ScaleCheaper.j3 kj30 a1 t301 a0_0 a0_1 a0_2 a0_3 a0_4 a0_5) = some r := by rw [if_neg (show ¬ (false = true) by decide)] at H; exact H
                          clear H
                          have H := H1
                          clear H1
                          have H' := Aside0.mk H
                          clear H
                          go_wp2
                          go_meet
                          case rel => exact ⟨_, H', ⟨by have := HJ5.out; have := HJ21.out; have := HJ30.out; first | omega | exact Nat.le_refl _⟩, ⟨by (with_reducible repeat (first | refine blk_drewN ?_ _ | refine blk_drew ?_ | refine blk_alloc ?_ _)); exact BK300.out⟩, ⟨by repeat (first | (with_reducible first | exact HB.out | apply below_alloc | apply pw_below_drewN | apply below_drew1 | refine below_set ?_ GE300.out) | exact HB.out)⟩⟩
                  · rw [if_neg c29] at H
                    have c29b0 : decide (a0_2 ≤ a1) = false := decide_eq_false c29
                    clear c29
                    (first | rw [c29b0] | (simp only [i64_w, i32_w]; rw [c29b0]) | skip)
                    have H' := Aside0.mk H
                    clear H
                    go_wp2
                    go_meet
                    case rel => exact ⟨_, H', ⟨by have := HJ5.out; have := HJ21.out; first | omega | exact Nat.le_refl _⟩, ⟨by (with_reducible repeat (first | refine blk_drewN ?_ _ | refine blk_drew ?_ | refine blk_alloc ?_ _)); exact BK300.out⟩, ⟨by repeat (first | (with_reducible first | exact HB.out | apply below_alloc | apply pw_below_drewN | apply below_drew1 | refine below_set ?_ GE300.out) | exact HB.out)⟩⟩
                case rest => as_aux_lemma =>
                  clear HC27
                  try clear c1
                  try clear c2
                  try clear p2
                  try clear c3
                  try clear c4
                  try clear c5
                  try clear c5b0
                  try clear c5b1
                  try clear p6
                  try clear c7
                  try clear c10
                  try clear c11
                  try clear c12
                  try clear c12b0
                  try clear c19
                  try clear c23
                  try clear c25
                  try clear c25b0
                  try clear c25b1
                  try clear c26
                  try clear c29
                  try clear c29b0
                  try clear c34
                  try clear c34b0
                  try clear c34b1
                  try clear c35
                  try clear c35b0
                  try clear c37
                  try clear c37b0
                  try clear c39
                  try clear c39b0
                  try clear c40
                  try clear c40b0
                  try clear c44
                  try clear hcz13_0
                  try clear hcz13_1
                  try clear hcz13_2
                  try clear hcz13_3
                  try clear hcz13_4
                  try clear hcz13_5
                  try clear hcz15_0
                  try clear hcz15_1
                  try clear hcz15_2
                  try clear hcz15_3
                  try clear hcz15_4
                  try clear hcz15_5
                  try clear hcz17_0
                  try clear hcz17_1
                  try clear hcz17_2
                  try clear hcz17_3
                  try clear hcz17_4
                  try clear hcz17_5
                  try clear hcz23_0
                  try clear hcz23_1
                  try clear hcz23_2
                  try clear hcz23_3
                  try clear hcz23_4
                  try clear hcz23_5
                  try clear hcz28_0
                  try clear hcz28_1
                  try clear hcz28_2
                  try clear hcz28_3
                  try clear hcz28_4
                  try clear hcz28_5
                  try clear hcz32_0
                  try clear hcz32_1
                  try clear hcz32_2
                  try clear hcz32_3
                  try clear hcz32_4
                  try clear hcz32_5
                  try clear hcz36_0
                  try clear hcz36_1
                  try clear hcz36_2
                  try clear hcz36_3
                  try clear hcz36_4
                  try clear hcz36_5
                  try clear hcz38_0
                  try clear hcz38_1
                  try clear hcz38_2
                  try clear hcz38_3
                  try clear hcz38_4
                  try clear hcz38_5
                  try clear hcz41_0
                  try clear hcz41_1
                  try clear hcz41_2
                  try clear hcz41_3
                  try clear hcz41_4
                  try clear hcz41_5
                  try clear hcz42_0
                  try clear hcz42_1
                  try clear hcz42_2
                  try clear hcz42_3
                  try clear hcz42_4
                  try clear hcz42_5
                  try clear hcz43_0
                  try clear hcz43_1
                  try clear hcz43_2
                  try clear hcz43_3
                  try clear hcz43_4
                  try clear hcz43_5
                  try clear hcz8_0
                  try clear hcz8_1
                  try clear hcz8_2
                  try clear hcz8_3
                  try clear hcz8_4
                  try clear hcz8_5
                  try clear hfz13_0
                  try clear hfz13_1
                  try clear hfz13_2
                  try clear hfz13_3
                  try clear hfz13_4
                  try clear hfz13_5
                  try clear hfz15_0
                  try clear hfz15_1
                  try clear hfz15_2
                  try clear hfz15_3
                  try clear hfz15_4
                  try clear hfz15_5
                  try clear hfz17_0
                  try clear hfz17_1
                  try clear hfz17_2
                  try clear hfz17_3
                  try clear hfz17_4
                  try clear hfz17_5
                  try clear hfz23_0
                  try clear hfz23_1
                  try clear hfz23_2
                  try clear hfz23_3
                  try clear hfz23_4
                  try clear hfz23_5
                  try clear hfz28_0
                  try clear hfz28_1
                  try clear hfz28_2
                  try clear hfz28_3
                  try clear hfz28_4
                  try clear hfz28_5
                  try clear hfz32_0
                  try clear hfz32_1
                  try clear hfz32_2
                  try clear hfz32_3
                  try clear hfz32_4
                  try clear hfz32_5
                  try clear hfz36_0
                  try clear hfz36_1
                  try clear hfz36_2
                  try clear hfz36_3
                  try clear hfz36_4
                  try clear hfz36_5
                  try clear hfz38_0
                  try clear hfz38_1
                  try clear hfz38_2
                  try clear hfz38_3
                  try clear hfz38_4
                  try clear hfz38_5
                  try clear hfz41_0
                  try clear hfz41_1
                  try clear hfz41_2
                  try clear hfz41_3
                  try clear hfz41_4
                  try clear hfz41_5
                  try clear hfz42_0
                  try clear hfz42_1
                  try clear hfz42_2
                  try clear hfz42_3
                  try clear hfz42_4
                  try clear hfz42_5
                  try clear hfz43_0
                  try clear hfz43_1
                  try clear hfz43_2
                  try clear hfz43_3
                  try clear hfz43_4
                  try clear hfz43_5
                  try clear hfz8_0
                  try clear hfz8_1
                  try clear hfz8_2
                  try clear hfz8_3
                  try clear hfz8_4
                  try clear hfz8_5
                  try clear p2
                  try clear p6
                  obtain ⟨kq, HA, HJ26, BK300, HB⟩ := hcut
                  cases kq with
                  | zero => exact absurd HA.out (by simp [gasworkslaw13_ScaleCheaper.j3])
                  | succ kj26 =>
                    have H := HA.out
                    clear HA
                    simp only [gasworkslaw13_ScaleCheaper.j3] at H
                    replace H := Option.bind_eq_some_iff.mp H
                    obtain ⟨⟨t310, t311⟩, A450, H⟩ := H
                    replace H : ((scale_Dearest.f a0_0 a0_1 a0_2 a0_3 a0_4 a0_5 t301).bind fun bt312 => (if t311 = 0 then (if t310 = a0_1 then (if bt312.2 = 0 then (if bt312.1 < a1 then (gasworkslaw13_ScaleCheaper.j4 kj26 a1 t301 bt312.1 true a0_0 a0_1 a0_2 a0_3 a0_4 a0_5) else (gasworkslaw13_ScaleCheaper.j4 kj26 a1 t301 bt312.1 (decide (bt312.1 > 100000)) a0_0 a0_1 a0_2 a0_3 a0_4 a0_5)) else (gasworkslaw13_ScaleCheaper.j4 kj26 a1 t301 bt312.1 true a0_0 a0_1 a0_2 a0_3 a0_4 a0_5)) else (gasworkslaw13_ScaleCheaper.j4 kj26 a1 t301 bt312.1 true a0_0 a0_1 a0_2 a0_3 a0_4 a0_5)) else (gasworkslaw13_ScaleCheaper.j4 kj26 a1 t301 bt312.1 true a0_0 a0_1 a0_2 a0_3 a0_4 a0_5))) = some r := H
                    have A45 := Aside0.mk A450
                    clear A450
                    replace H := Option.bind_eq_some_iff.mp H
                    obtain ⟨⟨t312, t313⟩, A460, H⟩ := H
                    replace H : (if t311 = 0 then (if t310 = a0_1 then (if t313 = 0 then (if t312 < a1 then (gasworkslaw13_ScaleCheaper.j4 kj26 a1 t301 t312 true a0_0 a0_1 a0_2 a0_3 a0_4 a0_5) else (gasworkslaw13_ScaleCheaper.j4 kj26 a1 t301 t312 (decide (t312 > 100000)) a0_0 a0_1 a0_2 a0_3 a0_4 a0_5)) else (gasworkslaw13_ScaleCheaper.j4 kj26 a1 t301 t312 true a0_0 a0_1 a0_2 a0_3 a0_4 a0_5)) else (gasworkslaw13_ScaleCheaper.j4 kj26 a1 t301 t312 true a0_0 a0_1 a0_2 a0_3 a0_4 a0_5)) else (gasworkslaw13_ScaleCheaper.j4 kj26 a1 t301 t312 true a0_0 a0_1 a0_2 a0_3 a0_4 a0_5)) = some r := H
                    have A46 := Aside0.mk A460
                    clear A460
                    have HC47 := Aside0.mk H
                    clear H
                    have hcz48_0 : wc.cell? ⟨gb300, 0, none⟩ = some (.int .i64 a0_0) := (blk_cell BK300.out 0).trans rfl
                    have hcz48_1 : wc.cell? ⟨gb300, 1, none⟩ = some (.int .i64 a0_1) := (blk_cell BK300.out 1).trans rfl
                    have hcz48_2 : wc.cell? ⟨gb300, 2, none⟩ = some (.int .i64 a0_2) := (blk_cell BK300.out 2).trans rfl
                    have hcz48_3 : wc.cell? ⟨gb300, 3, none⟩ = some (.int .i64 a0_3) := (blk_cell BK300.out 3).trans rfl
                    have hcz48_4 : wc.cell? ⟨gb300, 4, none⟩ = some (.int .i64 a0_4) := (blk_cell BK300.out 4).trans rfl
                    have hcz48_5 : wc.cell? ⟨gb300, 5, none⟩ = some (.int .i64 a0_5) := (blk_cell BK300.out 5).trans rfl
                    have hfz48_0 := blk_frozen BK300.out 0
                    have hfz48_1 := blk_frozen BK300.out 1
                    have hfz48_2 := blk_frozen BK300.out 2
                    have hfz48_3 := blk_frozen BK300.out 3
                    have hfz48_4 := blk_frozen BK300.out 4
                    have hfz48_5 := blk_frozen BK300.out 5
                    go_upto_region 15 with (first | ((with_reducible refine gate_callee (f := 10) rfl ?_); refine goesL_ (some 120) rfl rfl Try.func10 (by kernel_rfl) rfl #[.agg #[.int .i64 a0_0, .int .i64 a0_1, .int .i64 a0_2, .int .i64 a0_3, .int .i64 a0_4, .int .i64 a0_5], .int .i64 a0_0] rfl (by (try simp only [List.map_toArray, List.map_cons, List.map_nil]); first | done | rfl | (simp only [List.length_drop, List.length_take]; rfl)) ?_; (with_reducible refine (scale_Rate.calls a0_0 a0_1 a0_2 a0_3 a0_4 a0_5 a0_0 t310 t311 _ A45.out).mono ?_); rintro e w49 ⟨rfl, hb⟩; refine ⟨_, rfl, ?_⟩; have n0_ := Aside0.mk (blk_below (g := gb300) (o := .cells #[.int .i64 a0_0, .int .i64 a0_1, .int .i64 a0_2, .int .i64 a0_3, .int .i64 a0_4, .int .i64 a0_5] 23 (0, 0)) (by (with_reducible repeat (first | refine blk_drewN ?_ _ | refine blk_drew ?_ | refine blk_alloc ?_ _)); exact BK300.out) hb); have n1_ := Aside0.mk (below_step (by repeat (first | (with_reducible first | exact HB.out | apply below_alloc | apply pw_below_drewN | apply below_drew1 | refine below_set ?_ GE300.out) | exact HB.out)) hb); clear BK300; clear HB; have BK300 := n0_; have HB := n1_; clear n0_ n1_; (try clear hb); (try clear hb2); (try clear hk); (try clear hi); have hcz50_0 : w49.cell? ⟨gb300, 0, none⟩ = some (.int .i64 a0_0) := (blk_cell BK300.out 0).trans rfl; have hcz50_1 : w49.cell? ⟨gb300, 1, none⟩ = some (.int .i64 a0_1) := (blk_cell BK300.out 1).trans rfl; have hcz50_2 : w49.cell? ⟨gb300, 2, none⟩ = some (.int .i64 a0_2) := (blk_cell BK300.out 2).trans rfl; have hcz50_3 : w49.cell? ⟨gb300, 3, none⟩ = some (.int .i64 a0_3) := (blk_cell BK300.out 3).trans rfl; have hcz50_4 : w49.cell? ⟨gb300, 4, none⟩ = some (.int .i64 a0_4) := (blk_cell BK300.out 4).trans rfl; have hcz50_5 : w49.cell? ⟨gb300, 5, none⟩ = some (.int .i64 a0_5) := (blk_cell BK300.out 5).trans rfl; have hfz50_0 := blk_frozen BK300.out 0; have hfz50_1 := blk_frozen BK300.out 1; have hfz50_2 := blk_frozen BK300.out 2; have hfz50_3 := blk_frozen BK300.out 3; have hfz50_4 := blk_frozen BK300.out 4; have hfz50_5 := blk_frozen BK300.out 5) | ((with_reducible refine gate_callee (f := 12) rfl ?_); refine goesL_ (some 126) rfl rfl Try.func12 (by kernel_rfl) rfl #[.agg #[.int .i64 a0_0, .int .i64 a0_1, .int .i64 a0_2, .int .i64 a0_3, .int .i64 a0_4, .int .i64 a0_5], .int .i64 t301] rfl (by (try simp only [List.map_toArray, List.map_cons, List.map_nil]); first | done | rfl | (simp only [List.length_drop, List.length_take]; rfl)) ?_; (with_reducible refine (scale_Dearest.calls a0_0 a0_1 a0_2 a0_3 a0_4 a0_5 t301 t312 t313 _ A46.out).mono ?_); rintro e w51 ⟨rfl, hb⟩; refine ⟨_, rfl, ?_⟩; have n0_ := Aside0.mk (blk_below (g := gb300) (o := .cells #[.int .i64 a0_0, .int .i64 a0_1, .int .i64 a0_2, .int .i64 a0_3, .int .i64 a0_4, .int .i64 a0_5] 23 (0, 0)) (by (with_reducible repeat (first | refine blk_drewN ?_ _ | refine blk_drew ?_ | refine blk_alloc ?_ _)); exact BK300.out) hb); have n1_ := Aside0.mk (below_step (by repeat (first | (with_reducible first | exact HB.out | apply below_alloc | apply pw_below_drewN | apply below_drew1 | refine below_set ?_ GE300.out) | exact HB.out)) hb); clear BK300; clear HB; have BK300 := n0_; have HB := n1_; clear n0_ n1_; (try clear hb); (try clear hb2); (try clear hk); (try clear hi)))
                    (try simp only [Act.put, List.setIfInBounds_toArray, List.set_cons_zero, List.set_cons_succ])
                    go_cut [149] (fun v149 wc => ∃ (kq : Nat) (x149_46 : Bool), v149 = .bool x149_46 ∧ Aside0 (gasworkslaw13_ScaleCheaper.j4 kq a1 t301 t312 x149_46 a0_0 a0_1 a0_2 a0_3 a0_4 a0_5 = some r) ∧ Aside0 (kq ≤ kj26) ∧ Aside0 (wc.heap[gb300]? = some (.cells #[.int .i64 a0_0, .int .i64 a0_1, .int .i64 a0_2, .int .i64 a0_3, .int .i64 a0_4, .int .i64 a0_5] 23 (0, 0))) ∧ Aside0 (Below w.heap.size w wc))
                    case first => as_aux_lemma =>
                      have H := HC47.out
                      clear HC47
                      by_cases c52 : t311 = 0
                      · rw [if_pos c52] at H
                        have c52b0 : (t311 == 0) = true := beq_iff_eq.mpr c52
                        have c52b1 : (t311 != 0) = false := bne_eq_false_iff_eq.mpr c52
                        clear c52
                        (first | rw [c52b0] | (simp only [i64_w, i32_w]; rw [c52b0]) | skip)
                        by_cases c53 : t310 = a0_1
                        · rw [if_pos c53] at H
                          have c53b0 : (t310 == a0_1) = true := beq_iff_eq.mpr c53
                          have c53b1 : (t310 != a0_1) = false := bne_eq_false_iff_eq.mpr c53
                          clear c53
                          by_cases c54 : t313 = 0
                          · rw [if_pos c54] at H
                            have c54b0 : (t313 == 0) = true := beq_iff_eq.mpr c54
                            have c54b1 : (t313 != 0) = false := bne_eq_false_iff_eq.mpr c54
                            clear c54
                            by_cases c55 : t312 < a1
                            · rw [if_pos c55] at H
                              have c55b0 : decide (t312 < a1) = true := decide_eq_true c55
                              clear c55
                              have H' := Aside0.mk H
                              clear H
                              have hcz56_0 : w51.cell? ⟨gb300, 0, none⟩ = some (.int .i64 a0_0) := (blk_cell BK300.out 0).trans rfl
                              have hcz56_1 : w51.cell? ⟨gb300, 1, none⟩ = some (.int .i64 a0_1) := (blk_cell BK300.out 1).trans rfl
                              have hcz56_2 : w51.cell? ⟨gb300, 2, none⟩ = some (.int .i64 a0_2) := (blk_cell BK300.out 2).trans rfl
                              have hcz56_3 : w51.cell? ⟨gb300, 3, none⟩ = some (.int .i64 a0_3) := (blk_cell BK300.out 3).trans rfl
                              have hcz56_4 : w51.cell? ⟨gb300, 4, none⟩ = some (.int .i64 a0_4) := (blk_cell BK300.out 4).trans rfl
                              have hcz56_5 : w51.cell? ⟨gb300, 5, none⟩ = some (.int .i64 a0_5) := (blk_cell BK300.out 5).trans rfl
                              have hfz56_0 := blk_frozen BK300.out 0
                              have hfz56_1 := blk_frozen BK300.out 1
                              have hfz56_2 := blk_frozen BK300.out 2
                              have hfz56_3 := blk_frozen BK300.out 3
                              have hfz56_4 := blk_frozen BK300.out 4
                              have hfz56_5 := blk_frozen BK300.out 5
                              go_wp2
                              go_meet
                              case rel => exact ⟨_, (true), (by first | rfl | (simp; done) | (simp [*]; done)), H', ⟨by have := HJ5.out; have := HJ21.out; have := HJ26.out; first | omega | exact Nat.le_refl _⟩, ⟨by (with_reducible repeat (first | refine blk_drewN ?_ _ | refine blk_drew ?_ | refine blk_alloc ?_ _)); exact BK300.out⟩, ⟨by repeat (first | (with_reducible first | exact HB.out | apply below_alloc | apply pw_below_drewN | apply below_drew1 | refine below_set ?_ GE300.out) | exact HB.out)⟩⟩
                            · rw [if_neg c55] at H
                              have c55b0 : decide (t312 < a1) = false := decide_eq_false c55
                              clear c55
                              have H' := Aside0.mk H
                              clear H
                              have hcz57_0 : w51.cell? ⟨gb300, 0, none⟩ = some (.int .i64 a0_0) := (blk_cell BK300.out 0).trans rfl
                              have hcz57_1 : w51.cell? ⟨gb300, 1, none⟩ = some (.int .i64 a0_1) := (blk_cell BK300.out 1).trans rfl
                              have hcz57_2 : w51.cell? ⟨gb300, 2, none⟩ = some (.int .i64 a0_2) := (blk_cell BK300.out 2).trans rfl
                              have hcz57_3 : w51.cell? ⟨gb300, 3, none⟩ = some (.int .i64 a0_3) := (blk_cell BK300.out 3).trans rfl
                              have hcz57_4 : w51.cell? ⟨gb300, 4, none⟩ = some (.int .i64 a0_4) := (blk_cell BK300.out 4).trans rfl
                              have hcz57_5 : w51.cell? ⟨gb300, 5, none⟩ = some (.int .i64 a0_5) := (blk_cell BK300.out 5).trans rfl
                              have hfz57_0 := blk_frozen BK300.out 0
                              have hfz57_1 := blk_frozen BK300.out 1
                              have hfz57_2 := blk_frozen BK300.out 2
                              have hfz57_3 := blk_frozen BK300.out 3
                              have hfz57_4 := blk_frozen BK300.out 4
                              have hfz57_5 := blk_frozen BK300.out 5
                              go_wp2
                              go_meet
                              case rel => exact ⟨_, (decide (t312 > 100000)), (by first | rfl | (simp; done) | (simp [*]; done)), H', ⟨by have := HJ5.out; have := HJ21.out; have := HJ26.out; first | omega | exact Nat.le_refl _⟩, ⟨by (with_reducible repeat (first | refine blk_drewN ?_ _ | refine blk_drew ?_ | refine blk_alloc ?_ _)); exact BK300.out⟩, ⟨by repeat (first | (with_reducible first | exact HB.out | apply below_alloc | apply pw_below_drewN | apply below_drew1 | refine below_set ?_ GE300.out) | exact HB.out)⟩⟩
                          · rw [if_neg c54] at H
                            have c54b0 : (t313 == 0) = false := beq_eq_false_iff_ne.mpr c54
                            have c54b1 : (t313 != 0) = true := bne_iff_ne.mpr c54
                            have H' := Aside0.mk H
                            clear H
                            have hcz58_0 : w51.cell? ⟨gb300, 0, none⟩ = some (.int .i64 a0_0) := (blk_cell BK300.out 0).trans rfl
                            have hcz58_1 : w51.cell? ⟨gb300, 1, none⟩ = some (.int .i64 a0_1) := (blk_cell BK300.out 1).trans rfl
                            have hcz58_2 : w51.cell? ⟨gb300, 2, none⟩ = some (.int .i64 a0_2) := (blk_cell BK300.out 2).trans rfl
                            have hcz58_3 : w51.cell? ⟨gb300, 3, none⟩ = some (.int .i64 a0_3) := (blk_cell BK300.out 3).trans rfl
                            have hcz58_4 : w51.cell? ⟨gb300, 4, none⟩ = some (.int .i64 a0_4) := (blk_cell BK300.out 4).trans rfl
                            have hcz58_5 : w51.cell? ⟨gb300, 5, none⟩ = some (.int .i64 a0_5) := (blk_cell BK300.out 5).trans rfl
                            have hfz58_0 := blk_frozen BK300.out 0
                            have hfz58_1 := blk_frozen BK300.out 1
                            have hfz58_2 := blk_frozen BK300.out 2
                            have hfz58_3 := blk_frozen BK300.out 3
                            have hfz58_4 := blk_frozen BK300.out 4
                            have hfz58_5 := blk_frozen BK300.out 5
                            go_wp2
                            go_meet
                            case rel => exact ⟨_, (true), (by first | rfl | (simp; done) | (simp [*]; done)), H', ⟨by have := HJ5.out; have := HJ21.out; have := HJ26.out; first | omega | exact Nat.le_refl _⟩, ⟨by (with_reducible repeat (first | refine blk_drewN ?_ _ | refine blk_drew ?_ | refine blk_alloc ?_ _)); exact BK300.out⟩, ⟨by repeat (first | (with_reducible first | exact HB.out | apply below_alloc | apply pw_below_drewN | apply below_drew1 | refine below_set ?_ GE300.out) | exact HB.out)⟩⟩
                        · rw [if_neg c53] at H
                          have c53b0 : (t310 == a0_1) = false := beq_eq_false_iff_ne.mpr c53
                          have c53b1 : (t310 != a0_1) = true := bne_iff_ne.mpr c53
                          have H' := Aside0.mk H
                          clear H
                          have hcz59_0 : w51.cell? ⟨gb300, 0, none⟩ = some (.int .i64 a0_0) := (blk_cell BK300.out 0).trans rfl
                          have hcz59_1 : w51.cell? ⟨gb300, 1, none⟩ = some (.int .i64 a0_1) := (blk_cell BK300.out 1).trans rfl
                          have hcz59_2 : w51.cell? ⟨gb300, 2, none⟩ = some (.int .i64 a0_2) := (blk_cell BK300.out 2).trans rfl
                          have hcz59_3 : w51.cell? ⟨gb300, 3, none⟩ = some (.int .i64 a0_3) := (blk_cell BK300.out 3).trans rfl
                          have hcz59_4 : w51.cell? ⟨gb300, 4, none⟩ = some (.int .i64 a0_4) := (blk_cell BK300.out 4).trans rfl
                          have hcz59_5 : w51.cell? ⟨gb300, 5, none⟩ = some (.int .i64 a0_5) := (blk_cell BK300.out 5).trans rfl
                          have hfz59_0 := blk_frozen BK300.out 0
                          have hfz59_1 := blk_frozen BK300.out 1
                          have hfz59_2 := blk_frozen BK300.out 2
                          have hfz59_3 := blk_frozen BK300.out 3
                          have hfz59_4 := blk_frozen BK300.out 4
                          have hfz59_5 := blk_frozen BK300.out 5
                          go_wp2
                          go_meet
                          case rel => exact ⟨_, (true), (by first | rfl | (simp; done) | (simp [*]; done)), H', ⟨by have := HJ5.out; have := HJ21.out; have := HJ26.out; first | omega | exact Nat.le_refl _⟩, ⟨by (with_reducible repeat (first | refine blk_drewN ?_ _ | refine blk_drew ?_ | refine blk_alloc ?_ _)); exact BK300.out⟩, ⟨by repeat (first | (with_reducible first | exact HB.out | apply below_alloc | apply pw_below_drewN | apply below_drew1 | refine below_set ?_ GE300.out) | exact HB.out)⟩⟩
                      · rw [if_neg c52] at H
                        have c52b0 : (t311 == 0) = false := beq_eq_false_iff_ne.mpr c52
                        have c52b1 : (t311 != 0) = true := bne_iff_ne.mpr c52
                        (first | rw [c52b0] | (simp only [i64_w, i32_w]; rw [c52b0]) | skip)
                        have H' := Aside0.mk H
                        clear H
                        go_wp2
                        go_meet
                        case rel => exact ⟨_, (true), (by first | rfl | (simp; done) | (simp [*]; done)), H', ⟨by have := HJ5.out; have := HJ21.out; have := HJ26.out; first | omega | exact Nat.le_refl _⟩, ⟨by (with_reducible repeat (first | refine blk_drewN ?_ _ | refine blk_drew ?_ | refine blk_alloc ?_ _)); exact BK300.out⟩, ⟨by repeat (first | (with_reducible first | exact HB.out | apply below_alloc | apply pw_below_drewN | apply below_drew1 | refine below_set ?_ GE300.out) | exact HB.out)⟩⟩
                    case rest => as_aux_lemma =>
                      clear HC47
                      try clear c1
                      try clear c2
                      try clear p2
                      try clear c3
                      try clear c4
                      try clear c5
                      try clear c5b0
                      try clear c5b1
                      try clear p6
                      try clear c7
                      try clear c10
                      try clear c11
                      try clear c12
                      try clear c12b0
                      try clear c19
                      try clear c23
                      try clear c25
                      try clear c25b0
                      try clear c25b1
                      try clear c26
                      try clear c29
                      try clear c29b0
                      try clear c34
                      try clear c34b0
                      try clear c34b1
                      try clear c35
                      try clear c35b0
                      try clear c37
                      try clear c37b0
                      try clear c39
                      try clear c39b0
                      try clear c40
                      try clear c40b0
                      try clear c44
                      try clear c52
                      try clear c52b0
                      try clear c52b1
                      try clear c53
                      try clear c53b0
                      try clear c53b1
                      try clear c54
                      try clear c54b0
                      try clear c54b1
                      try clear c55
                      try clear c55b0
                      try clear hcz13_0
                      try clear hcz13_1
                      try clear hcz13_2
                      try clear hcz13_3
                      try clear hcz13_4
                      try clear hcz13_5
                      try clear hcz15_0
                      try clear hcz15_1
                      try clear hcz15_2
                      try clear hcz15_3
                      try clear hcz15_4
                      try clear hcz15_5
                      try clear hcz17_0
                      try clear hcz17_1
                      try clear hcz17_2
                      try clear hcz17_3
                      try clear hcz17_4
                      try clear hcz17_5
                      try clear hcz23_0
                      try clear hcz23_1
                      try clear hcz23_2
                      try clear hcz23_3
                      try clear hcz23_4
                      try clear hcz23_5
                      try clear hcz28_0
                      try clear hcz28_1
                      try clear hcz28_2
                      try clear hcz28_3
                      try clear hcz28_4
                      try clear hcz28_5
                      try clear hcz32_0
                      try clear hcz32_1
                      try clear hcz32_2
                      try clear hcz32_3
                      try clear hcz32_4
                      try clear hcz32_5
                      try clear hcz36_0
                      try clear hcz36_1
                      try clear hcz36_2
                      try clear hcz36_3
                      try clear hcz36_4
                      try clear hcz36_5
                      try clear hcz38_0
                      try clear hcz38_1
                      try clear hcz38_2
                      try clear hcz38_3
                      try clear hcz38_4
                      try clear hcz38_5
                      try clear hcz41_0
                      try clear hcz41_1
                      try clear hcz41_2
                      try clear hcz41_3
                      try clear hcz41_4
                      try clear hcz41_5
                      try clear hcz42_0
                      try clear hcz42_1
                      try clear hcz42_2
                      try clear hcz42_3
                      try clear hcz42_4
                      try clear hcz42_5
                      try clear hcz43_0
                      try clear hcz43_1
                      try clear hcz43_2
                      try clear hcz43_3
                      try clear hcz43_4
                      try clear hcz43_5
                      try clear hcz48_0
                      try clear hcz48_1
                      try clear hcz48_2
                      try clear hcz48_3
                      try clear hcz48_4
                      try clear hcz48_5
                      try clear hcz50_0
                      try clear hcz50_1
                      try clear hcz50_2
                      try clear hcz50_3
                      try clear hcz50_4
                      try clear hcz50_5
                      try clear hcz56_0
                      try clear hcz56_1
                      try clear hcz56_2
                      try clear hcz56_3
                      try clear hcz56_4
                      try clear hcz56_5
                      try clear hcz57_0
                      try clear hcz57_1
                      try clear hcz57_2
                      try clear hcz57_3
                      try clear hcz57_4
                      try clear hcz57_5
                      try clear hcz58_0
                      try clear hcz58_1
                      try clear hcz58_2
                      try clear hcz58_3
                      try clear hcz58_4
                      try clear hcz58_5
                      try clear hcz59_0
                      try clear hcz59_1
                      try clear hcz59_2
                      try clear hcz59_3
                      try clear hcz59_4
                      try clear hcz59_5
                      try clear hcz8_0
                      try clear hcz8_1
                      try clear hcz8_2
                      try clear hcz8_3
                      try clear hcz8_4
                      try clear hcz8_5
                      try clear hfz13_0
                      try clear hfz13_1
                      try clear hfz13_2
                      try clear hfz13_3
                      try clear hfz13_4
                      try clear hfz13_5
                      try clear hfz15_0
                      try clear hfz15_1
                      try clear hfz15_2
                      try clear hfz15_3
                      try clear hfz15_4
                      try clear hfz15_5
                      try clear hfz17_0
                      try clear hfz17_1
                      try clear hfz17_2
                      try clear hfz17_3
                      try clear hfz17_4
                      try clear hfz17_5
                      try clear hfz23_0
                      try clear hfz23_1
                      try clear hfz23_2
                      try clear hfz23_3
                      try clear hfz23_4
                      try clear hfz23_5
                      try clear hfz28_0
                      try clear hfz28_1
                      try clear hfz28_2
                      try clear hfz28_3
                      try clear hfz28_4
                      try clear hfz28_5
                      try clear hfz32_0
                      try clear hfz32_1
                      try clear hfz32_2
                      try clear hfz32_3
                      try clear hfz32_4
                      try clear hfz32_5
                      try clear hfz36_0
                      try clear hfz36_1
                      try clear hfz36_2
                      try clear hfz36_3
                      try clear hfz36_4
                      try clear hfz36_5
                      try clear hfz38_0
                      try clear hfz38_1
                      try clear hfz38_2
                      try clear hfz38_3
                      try clear hfz38_4
                      try clear hfz38_5
                      try clear hfz41_0
                      try clear hfz41_1
                      try clear hfz41_2
                      try clear hfz41_3
                      try clear hfz41_4
                      try clear hfz41_5
                      try clear hfz42_0
                      try clear hfz42_1
                      try clear hfz42_2
                      try clear hfz42_3
                      try clear hfz42_4
                      try clear hfz42_5
                      try clear hfz43_0
                      try clear hfz43_1
                      try clear hfz43_2
                      try clear hfz43_3
                      try clear hfz43_4
                      try clear hfz43_5
                      try clear hfz48_0
                      try clear hfz48_1
                      try clear hfz48_2
                      try clear hfz48_3
                      try clear hfz48_4
                      try clear hfz48_5
                      try clear hfz50_0
                      try clear hfz50_1
                      try clear hfz50_2
                      try clear hfz50_3
                      try clear hfz50_4
                      try clear hfz50_5
                      try clear hfz56_0
                      try clear hfz56_1
                      try clear hfz56_2
                      try clear hfz56_3
                      try clear hfz56_4
                      try clear hfz56_5
                      try clear hfz57_0
                      try clear hfz57_1
                      try clear hfz57_2
                      try clear hfz57_3
                      try clear hfz57_4
                      try clear hfz57_5
                      try clear hfz58_0
                      try clear hfz58_1
                      try clear hfz58_2
                      try clear hfz58_3
                      try clear hfz58_4
                      try clear hfz58_5
                      try clear hfz59_0
                      try clear hfz59_1
                      try clear hfz59_2
                      try clear hfz59_3
                      try clear hfz59_4
                      try clear hfz59_5
                      try clear hfz8_0
                      try clear hfz8_1
                      try clear hfz8_2
                      try clear hfz8_3
                      try clear hfz8_4
                      try clear hfz8_5
                      try clear p2
                      try clear p6
                      obtain ⟨kq, x149_46, rfl, HA, HJ46, BK300, HB⟩ := hcut
                      cases kq with
                      | zero => exact absurd HA.out (by simp [gasworkslaw13_ScaleCheaper.j4])
                      | succ kj46 =>
                        have H := HA.out
                        clear HA
                        simp only [gasworkslaw13_ScaleCheaper.j4] at H
                        by_cases c60 : x149_46 = true
                        · subst c60
                          have H1 : (some false) = some r := by rw [if_pos rfl] at H; exact H
                          clear H
                          have H := H1
                          clear H1
                          exact absurd ((Option.some.inj H).trans hr_) (by decide)
                        · replace c60 := Bool.eq_false_iff.mpr c60
                          subst c60
                          have H1 : ((scale_Rate.f a0_0 a0_1 a0_2 a0_3 a0_4 a0_5 t312).bind fun bt314 => ((scale_Rate.f a0_0 a0_1 a0_2 a0_3 a0_4 a0_5 (wrap64 (t312 + 1))).bind fun bt316 => (if bt314.2 = 0 then (if bt314.1 < t301 then (gasworkslaw13_ScaleCheaper.j5 kj46 a1 t301 t312 true a0_0 a0_1 a0_2 a0_3 a0_4 a0_5) else (if bt316.2 = 0 then (if bt316.1 ≥ t301 then (gasworkslaw13_ScaleCheaper.j5 kj46 a1 t301 t312 true a0_0 a0_1 a0_2 a0_3 a0_4 a0_5) else (gasworkslaw13_ScaleCheaper.j5 kj46 a1 t301 t312 false a0_0 a0_1 a0_2 a0_3 a0_4 a0_5)) else (gasworkslaw13_ScaleCheaper.j5 kj46 a1 t301 t312 (t312 != 100000) a0_0 a0_1 a0_2 a0_3 a0_4 a0_5))) else (gasworkslaw13_ScaleCheaper.j5 kj46 a1 t301 t312 true a0_0 a0_1 a0_2 a0_3 a0_4 a0_5)))) = some r := by rw [if_neg (show ¬ (false = true) by decide)] at H; exact H
                          clear H
                          have H := H1
                          clear H1
                          replace H := Option.bind_eq_some_iff.mp H
                          obtain ⟨⟨t314, t315⟩, A610, H⟩ := H
                          replace H : ((scale_Rate.f a0_0 a0_1 a0_2 a0_3 a0_4 a0_5 (wrap64 (t312 + 1))).bind fun bt316 => (if t315 = 0 then (if t314 < t301 then (gasworkslaw13_ScaleCheaper.j5 kj46 a1 t301 t312 true a0_0 a0_1 a0_2 a0_3 a0_4 a0_5) else (if bt316.2 = 0 then (if bt316.1 ≥ t301 then (gasworkslaw13_ScaleCheaper.j5 kj46 a1 t301 t312 true a0_0 a0_1 a0_2 a0_3 a0_4 a0_5) else (gasworkslaw13_ScaleCheaper.j5 kj46 a1 t301 t312 false a0_0 a0_1 a0_2 a0_3 a0_4 a0_5)) else (gasworkslaw13_ScaleCheaper.j5 kj46 a1 t301 t312 (t312 != 100000) a0_0 a0_1 a0_2 a0_3 a0_4 a0_5))) else (gasworkslaw13_ScaleCheaper.j5 kj46 a1 t301 t312 true a0_0 a0_1 a0_2 a0_3 a0_4 a0_5))) = some r := H
                          have A61 := Aside0.mk A610
                          clear A610
                          replace H := Option.bind_eq_some_iff.mp H
                          obtain ⟨⟨t316, t317⟩, A620, H⟩ := H
                          replace H : (if t315 = 0 then (if t314 < t301 then (gasworkslaw13_ScaleCheaper.j5 kj46 a1 t301 t312 true a0_0 a0_1 a0_2 a0_3 a0_4 a0_5) else (if t317 = 0 then (if t316 ≥ t301 then (gasworkslaw13_ScaleCheaper.j5 kj46 a1 t301 t312 true a0_0 a0_1 a0_2 a0_3 a0_4 a0_5) else (gasworkslaw13_ScaleCheaper.j5 kj46 a1 t301 t312 false a0_0 a0_1 a0_2 a0_3 a0_4 a0_5)) else (gasworkslaw13_ScaleCheaper.j5 kj46 a1 t301 t312 (t312 != 100000) a0_0 a0_1 a0_2 a0_3 a0_4 a0_5))) else (gasworkslaw13_ScaleCheaper.j5 kj46 a1 t301 t312 true a0_0 a0_1 a0_2 a0_3 a0_4 a0_5)) = some r := H
                          have A62 := Aside0.mk A620
                          clear A620
                          have HC63 := Aside0.mk H
                          clear H
                          have hcz64_0 : wc.cell? ⟨gb300, 0, none⟩ = some (.int .i64 a0_0) := (blk_cell BK300.out 0).trans rfl
                          have hcz64_1 : wc.cell? ⟨gb300, 1, none⟩ = some (.int .i64 a0_1) := (blk_cell BK300.out 1).trans rfl
                          have hcz64_2 : wc.cell? ⟨gb300, 2, none⟩ = some (.int .i64 a0_2) := (blk_cell BK300.out 2).trans rfl
                          have hcz64_3 : wc.cell? ⟨gb300, 3, none⟩ = some (.int .i64 a0_3) := (blk_cell BK300.out 3).trans rfl
                          have hcz64_4 : wc.cell? ⟨gb300, 4, none⟩ = some (.int .i64 a0_4) := (blk_cell BK300.out 4).trans rfl
                          have hcz64_5 : wc.cell? ⟨gb300, 5, none⟩ = some (.int .i64 a0_5) := (blk_cell BK300.out 5).trans rfl
                          have hfz64_0 := blk_frozen BK300.out 0
                          have hfz64_1 := blk_frozen BK300.out 1
                          have hfz64_2 := blk_frozen BK300.out 2
                          have hfz64_3 := blk_frozen BK300.out 3
                          have hfz64_4 := blk_frozen BK300.out 4
                          have hfz64_5 := blk_frozen BK300.out 5
                          go_upto_region 19 with (first | ((with_reducible refine gate_callee (f := 10) rfl ?_); refine goesL_ (some 153) rfl rfl Try.func10 (by kernel_rfl) rfl #[.agg #[.int .i64 a0_0, .int .i64 a0_1, .int .i64 a0_2, .int .i64 a0_3, .int .i64 a0_4, .int .i64 a0_5], .int .i64 t312] rfl (by (try simp only [List.map_toArray, List.map_cons, List.map_nil]); first | done | rfl | (simp only [List.length_drop, List.length_take]; rfl)) ?_; (with_reducible refine (scale_Rate.calls a0_0 a0_1 a0_2 a0_3 a0_4 a0_5 t312 t314 t315 _ A61.out).mono ?_); rintro e w65 ⟨rfl, hb⟩; refine ⟨_, rfl, ?_⟩; have n0_ := Aside0.mk (blk_below (g := gb300) (o := .cells #[.int .i64 a0_0, .int .i64 a0_1, .int .i64 a0_2, .int .i64 a0_3, .int .i64 a0_4, .int .i64 a0_5] 23 (0, 0)) (by (with_reducible repeat (first | refine blk_drewN ?_ _ | refine blk_drew ?_ | refine blk_alloc ?_ _)); exact BK300.out) hb); have n1_ := Aside0.mk (below_step (by repeat (first | (with_reducible first | exact HB.out | apply below_alloc | apply pw_below_drewN | apply below_drew1 | refine below_set ?_ GE300.out) | exact HB.out)) hb); clear BK300; clear HB; have BK300 := n0_; have HB := n1_; clear n0_ n1_; (try clear hb); (try clear hb2); (try clear hk); (try clear hi); have hcz66_0 : w65.cell? ⟨gb300, 0, none⟩ = some (.int .i64 a0_0) := (blk_cell BK300.out 0).trans rfl; have hcz66_1 : w65.cell? ⟨gb300, 1, none⟩ = some (.int .i64 a0_1) := (blk_cell BK300.out 1).trans rfl; have hcz66_2 : w65.cell? ⟨gb300, 2, none⟩ = some (.int .i64 a0_2) := (blk_cell BK300.out 2).trans rfl; have hcz66_3 : w65.cell? ⟨gb300, 3, none⟩ = some (.int .i64 a0_3) := (blk_cell BK300.out 3).trans rfl; have hcz66_4 : w65.cell? ⟨gb300, 4, none⟩ = some (.int .i64 a0_4) := (blk_cell BK300.out 4).trans rfl; have hcz66_5 : w65.cell? ⟨gb300, 5, none⟩ = some (.int .i64 a0_5) := (blk_cell BK300.out 5).trans rfl; have hfz66_0 := blk_frozen BK300.out 0; have hfz66_1 := blk_frozen BK300.out 1; have hfz66_2 := blk_frozen BK300.out 2; have hfz66_3 := blk_frozen BK300.out 3; have hfz66_4 := blk_frozen BK300.out 4; have hfz66_5 := blk_frozen BK300.out 5) | ((with_reducible refine gate_callee (f := 10) rfl ?_); refine goesL_ (some 160) rfl rfl Try.func10 (by kernel_rfl) rfl #[.agg #[.int .i64 a0_0, .int .i64 a0_1, .int .i64 a0_2, .int .i64 a0_3, .int .i64 a0_4, .int .i64 a0_5], .int .i64 (wrap64 (t312 + 1))] rfl (by (try simp only [List.map_toArray, List.map_cons, List.map_nil]); first | done | rfl | (simp only [List.length_drop, List.length_take]; rfl)) ?_; (with_reducible refine (scale_Rate.calls a0_0 a0_1 a0_2 a0_3 a0_4 a0_5 (wrap64 (t312 + 1)) t316 t317 _ A62.out).mono ?_); rintro e w67 ⟨rfl, hb⟩; refine ⟨_, rfl, ?_⟩; have n0_ := Aside0.mk (blk_below (g := gb300) (o := .cells #[.int .i64 a0_0, .int .i64 a0_1, .int .i64 a0_2, .int .i64 a0_3, .int .i64 a0_4, .int .i64 a0_5] 23 (0, 0)) (by (with_reducible repeat (first | refine blk_drewN ?_ _ | refine blk_drew ?_ | refine blk_alloc ?_ _)); exact BK300.out) hb); have n1_ := Aside0.mk (below_step (by repeat (first | (with_reducible first | exact HB.out | apply below_alloc | apply pw_below_drewN | apply below_drew1 | refine below_set ?_ GE300.out) | exact HB.out)) hb); clear BK300; clear HB; have BK300 := n0_; have HB := n1_; clear n0_ n1_; (try clear hb); (try clear hb2); (try clear hk); (try clear hi)))
                          (try simp only [Act.put, List.setIfInBounds_toArray, List.set_cons_zero, List.set_cons_succ])
                          go_cut [186] (fun v186 wc => ∃ (kq : Nat) (x186_62 : Bool), v186 = .bool x186_62 ∧ Aside0 (gasworkslaw13_ScaleCheaper.j5 kq a1 t301 t312 x186_62 a0_0 a0_1 a0_2 a0_3 a0_4 a0_5 = some r) ∧ Aside0 (kq ≤ kj46) ∧ Aside0 (wc.heap[gb300]? = some (.cells #[.int .i64 a0_0, .int .i64 a0_1, .int .i64 a0_2, .int .i64 a0_3, .int .i64 a0_4, .int .i64 a0_5] 23 (0, 0))) ∧ Aside0 (Below w.heap.size w wc))
                          case first => as_aux_lemma =>
                            have H := HC63.out
                            clear HC63
                            by_cases c68 : t315 = 0
                            · rw [if_pos c68] at H
                              have c68b0 : (t315 == 0) = true := beq_iff_eq.mpr c68
                              have c68b1 : (t315 != 0) = false := bne_eq_false_iff_eq.mpr c68
                              clear c68
                              (first | rw [c68b0] | (simp only [i64_w, i32_w]; rw [c68b0]) | skip)
                              by_cases c69 : t314 < t301
                              · rw [if_pos c69] at H
                                have c69b0 : decide (t314 < t301) = true := decide_eq_true c69
                                clear c69
                                have H' := Aside0.mk H
                                clear H
                                go_wp2
                                go_meet
                                case rel => exact ⟨_, (true), (by first | rfl | (simp; done) | (simp [*]; done)), H', ⟨by have := HJ5.out; have := HJ21.out; have := HJ26.out; have := HJ46.out; first | omega | exact Nat.le_refl _⟩, ⟨by (with_reducible repeat (first | refine blk_drewN ?_ _ | refine blk_drew ?_ | refine blk_alloc ?_ _)); exact BK300.out⟩, ⟨by repeat (first | (with_reducible first | exact HB.out | apply below_alloc | apply pw_below_drewN | apply below_drew1 | refine below_set ?_ GE300.out) | exact HB.out)⟩⟩
                              · rw [if_neg c69] at H
                                have c69b0 : decide (t314 < t301) = false := decide_eq_false c69
                                clear c69
                                by_cases c70 : t317 = 0
                                · rw [if_pos c70] at H
                                  have c70b0 : (t317 == 0) = true := beq_iff_eq.mpr c70
                                  have c70b1 : (t317 != 0) = false := bne_eq_false_iff_eq.mpr c70
                                  clear c70
                                  by_cases c71 : t316 ≥ t301
                                  · rw [if_pos c71] at H
                                    have c71b0 : decide (t301 ≤ t316) = true := decide_eq_true c71
                                    clear c71
                                    have H' := Aside0.mk H
                                    clear H
                                    go_wp2
                                    go_meet
                                    case rel => exact ⟨_, (true), (by first | rfl | (simp; done) | (simp [*]; done)), H', ⟨by have := HJ5.out; have := HJ21.out; have := HJ26.out; have := HJ46.out; first | omega | exact Nat.le_refl _⟩, ⟨by (with_reducible repeat (first | refine blk_drewN ?_ _ | refine blk_drew ?_ | refine blk_alloc ?_ _)); exact BK300.out⟩, ⟨by repeat (first | (with_reducible first | exact HB.out | apply below_alloc | apply pw_below_drewN | apply below_drew1 | refine below_set ?_ GE300.out) | exact HB.out)⟩⟩
                                  · rw [if_neg c71] at H
                                    have c71b0 : decide (t301 ≤ t316) = false := decide_eq_false c71
                                    clear c71
                                    have H' := Aside0.mk H
                                    clear H
                                    go_wp2
                                    go_meet
                                    case rel => exact ⟨_, (false), (by first | rfl | (simp; done) | (simp [*]; done)), H', ⟨by have := HJ5.out; have := HJ21.out; have := HJ26.out; have := HJ46.out; first | omega | exact Nat.le_refl _⟩, ⟨by (with_reducible repeat (first | refine blk_drewN ?_ _ | refine blk_drew ?_ | refine blk_alloc ?_ _)); exact BK300.out⟩, ⟨by repeat (first | (with_reducible first | exact HB.out | apply below_alloc | apply pw_below_drewN | apply below_drew1 | refine below_set ?_ GE300.out) | exact HB.out)⟩⟩
                                · rw [if_neg c70] at H
                                  have c70b0 : (t317 == 0) = false := beq_eq_false_iff_ne.mpr c70
                                  have c70b1 : (t317 != 0) = true := bne_iff_ne.mpr c70
                                  have H' := Aside0.mk H
                                  clear H
                                  go_wp2
                                  go_meet
                                  case rel => exact ⟨_, ((t312 != 100000)), (by first | rfl | (simp; done) | (simp [*]; done)), H', ⟨by have := HJ5.out; have := HJ21.out; have := HJ26.out; have := HJ46.out; first | omega | exact Nat.le_refl _⟩, ⟨by (with_reducible repeat (first | refine blk_drewN ?_ _ | refine blk_drew ?_ | refine blk_alloc ?_ _)); exact BK300.out⟩, ⟨by repeat (first | (with_reducible first | exact HB.out | apply below_alloc | apply pw_below_drewN | apply below_drew1 | refine below_set ?_ GE300.out) | exact HB.out)⟩⟩
                            · rw [if_neg c68] at H
                              have c68b0 : (t315 == 0) = false := beq_eq_false_iff_ne.mpr c68
                              have c68b1 : (t315 != 0) = true := bne_iff_ne.mpr c68
                              (first | rw [c68b0] | (simp only [i64_w, i32_w]; rw [c68b0]) | skip)
                              have H' := Aside0.mk H
                              clear H
                              go_wp2
                              go_meet
                              case rel => exact ⟨_, (true), (by first | rfl | (simp; done) | (simp [*]; done)), H', ⟨by have := HJ5.out; have := HJ21.out; have := HJ26.out; have := HJ46.out; first | omega | exact Nat.le_refl _⟩, ⟨by (with_reducible repeat (first | refine blk_drewN ?_ _ | refine blk_drew ?_ | refine blk_alloc ?_ _)); exact BK300.out⟩, ⟨by repeat (first | (with_reducible first | exact HB.out | apply below_alloc | apply pw_below_drewN | apply below_drew1 | refine below_set ?_ GE300.out) | exact HB.out)⟩⟩
                          case rest => as_aux_lemma =>
                            clear HC63
                            try clear c1
                            try clear c2
                            try clear p2
                            try clear c3
                            try clear c4
                            try clear c5
                            try clear c5b0
                            try clear c5b1
                            try clear c6
                            try clear p6
                            try clear c7
                            try clear c10
                            try clear c11
                            try clear c12
                            try clear c12b0
                            try clear c19
                            try clear c23
                            try clear c25
                            try clear c25b0
                            try clear c25b1
                            try clear c26
                            try clear c29
                            try clear c29b0
                            try clear c34
                            try clear c34b0
                            try clear c34b1
                            try clear c35
                            try clear c35b0
                            try clear c37
                            try clear c37b0
                            try clear c39
                            try clear c39b0
                            try clear c40
                            try clear c40b0
                            try clear c44
                            try clear c52
                            try clear c52b0
                            try clear c52b1
                            try clear c53
                            try clear c53b0
                            try clear c53b1
                            try clear c54
                            try clear c54b0
                            try clear c54b1
                            try clear c55
                            try clear c55b0
                            try clear c60
                            try clear p64
                            try clear c68
                            try clear c68b0
                            try clear c68b1
                            try clear c69
                            try clear c69b0
                            try clear c70
                            try clear c70b0
                            try clear c70b1
                            try clear c71
                            try clear c71b0
                            try clear hcz13_0
                            try clear hcz13_1
                            try clear hcz13_2
                            try clear hcz13_3
                            try clear hcz13_4
                            try clear hcz13_5
                            try clear hcz15_0
                            try clear hcz15_1
                            try clear hcz15_2
                            try clear hcz15_3
                            try clear hcz15_4
                            try clear hcz15_5
                            try clear hcz17_0
                            try clear hcz17_1
                            try clear hcz17_2
                            try clear hcz17_3
                            try clear hcz17_4
                            try clear hcz17_5
                            try clear hcz23_0
                            try clear hcz23_1
                            try clear hcz23_2
                            try clear hcz23_3
                            try clear hcz23_4
                            try clear hcz23_5
                            try clear hcz28_0
                            try clear hcz28_1
                            try clear hcz28_2
                            try clear hcz28_3
                            try clear hcz28_4
                            try clear hcz28_5
                            try clear hcz32_0
                            try clear hcz32_1
                            try clear hcz32_2
                            try clear hcz32_3
                            try clear hcz32_4
                            try clear hcz32_5
                            try clear hcz36_0
                            try clear hcz36_1
                            try clear hcz36_2
                            try clear hcz36_3
                            try clear hcz36_4
                            try clear hcz36_5
                            try clear hcz38_0
                            try clear hcz38_1
                            try clear hcz38_2
                            try clear hcz38_3
                            try clear hcz38_4
                            try clear hcz38_5
                            try clear hcz41_0
                            try clear hcz41_1
                            try clear hcz41_2
                            try clear hcz41_3
                            try clear hcz41_4
                            try clear hcz41_5
                            try clear hcz42_0
                            try clear hcz42_1
                            try clear hcz42_2
                            try clear hcz42_3
                            try clear hcz42_4
                            try clear hcz42_5
                            try clear hcz43_0
                            try clear hcz43_1
                            try clear hcz43_2
                            try clear hcz43_3
                            try clear hcz43_4
                            try clear hcz43_5
                            try clear hcz48_0
                            try clear hcz48_1
                            try clear hcz48_2
                            try clear hcz48_3
                            try clear hcz48_4
                            try clear hcz48_5
                            try clear hcz50_0
                            try clear hcz50_1
                            try clear hcz50_2
                            try clear hcz50_3
                            try clear hcz50_4
                            try clear hcz50_5
                            try clear hcz56_0
                            try clear hcz56_1
                            try clear hcz56_2
                            try clear hcz56_3
                            try clear hcz56_4
                            try clear hcz56_5
                            try clear hcz57_0
                            try clear hcz57_1
                            try clear hcz57_2
                            try clear hcz57_3
                            try clear hcz57_4
                            try clear hcz57_5
                            try clear hcz58_0
                            try clear hcz58_1
                            try clear hcz58_2
                            try clear hcz58_3
                            try clear hcz58_4
                            try clear hcz58_5
                            try clear hcz59_0
                            try clear hcz59_1
                            try clear hcz59_2
                            try clear hcz59_3
                            try clear hcz59_4
                            try clear hcz59_5
                            try clear hcz64_0
                            try clear hcz64_1
                            try clear hcz64_2
                            try clear hcz64_3
                            try clear hcz64_4
                            try clear hcz64_5
                            try clear hcz66_0
                            try clear hcz66_1
                            try clear hcz66_2
                            try clear hcz66_3
                            try clear hcz66_4
                            try clear hcz66_5
                            try clear hcz8_0
                            try clear hcz8_1
                            try clear hcz8_2
                            try clear hcz8_3
                            try clear hcz8_4
                            try clear hcz8_5
                            try clear hfz13_0
                            try clear hfz13_1
                            try clear hfz13_2
                            try clear hfz13_3
                            try clear hfz13_4
                            try clear hfz13_5
                            try clear hfz15_0
                            try clear hfz15_1
                            try clear hfz15_2
                            try clear hfz15_3
                            try clear hfz15_4
                            try clear hfz15_5
                            try clear hfz17_0
                            try clear hfz17_1
                            try clear hfz17_2
                            try clear hfz17_3
                            try clear hfz17_4
                            try clear hfz17_5
                            try clear hfz23_0
                            try clear hfz23_1
                            try clear hfz23_2
                            try clear hfz23_3
                            try clear hfz23_4
                            try clear hfz23_5
                            try clear hfz28_0
                            try clear hfz28_1
                            try clear hfz28_2
                            try clear hfz28_3
                            try clear hfz28_4
                            try clear hfz28_5
                            try clear hfz32_0
                            try clear hfz32_1
                            try clear hfz32_2
                            try clear hfz32_3
                            try clear hfz32_4
                            try clear hfz32_5
                            try clear hfz36_0
                            try clear hfz36_1
                            try clear hfz36_2
                            try clear hfz36_3
                            try clear hfz36_4
                            try clear hfz36_5
                            try clear hfz38_0
                            try clear hfz38_1
                            try clear hfz38_2
                            try clear hfz38_3
                            try clear hfz38_4
                            try clear hfz38_5
                            try clear hfz41_0
                            try clear hfz41_1
                            try clear hfz41_2
                            try clear hfz41_3
                            try clear hfz41_4
                            try clear hfz41_5
                            try clear hfz42_0
                            try clear hfz42_1
                            try clear hfz42_2
                            try clear hfz42_3
                            try clear hfz42_4
                            try clear hfz42_5
                            try clear hfz43_0
                            try clear hfz43_1
                            try clear hfz43_2
                            try clear hfz43_3
                            try clear hfz43_4
                            try clear hfz43_5
                            try clear hfz48_0
                            try clear hfz48_1
                            try clear hfz48_2
                            try clear hfz48_3
                            try clear hfz48_4
                            try clear hfz48_5
                            try clear hfz50_0
                            try clear hfz50_1
                            try clear hfz50_2
                            try clear hfz50_3
                            try clear hfz50_4
                            try clear hfz50_5
                            try clear hfz56_0
                            try clear hfz56_1
                            try clear hfz56_2
                            try clear hfz56_3
                            try clear hfz56_4
                            try clear hfz56_5
                            try clear hfz57_0
                            try clear hfz57_1
                            try clear hfz57_2
                            try clear hfz57_3
                            try clear hfz57_4
                            try clear hfz57_5
                            try clear hfz58_0
                            try clear hfz58_1
                            try clear hfz58_2
                            try clear hfz58_3
                            try clear hfz58_4
                            try clear hfz58_5
                            try clear hfz59_0
                            try clear hfz59_1
                            try clear hfz59_2
                            try clear hfz59_3
                            try clear hfz59_4
                            try clear hfz59_5
                            try clear hfz64_0
                            try clear hfz64_1
                            try clear hfz64_2
                            try clear hfz64_3
                            try clear hfz64_4
                            try clear hfz64_5
                            try clear hfz66_0
                            try clear hfz66_1
                            try clear hfz66_2
                            try clear hfz66_3
                            try clear hfz66_4
                            try clear hfz66_5
                            try clear hfz8_0
                            try clear hfz8_1
                            try clear hfz8_2
                            try clear hfz8_3
                            try clear hfz8_4
                            try clear hfz8_5
                            try clear p2
                            try clear p6
                            obtain ⟨kq, x186_62, rfl, HA, HJ62, BK300, HB⟩ := hcut
                            cases kq with
                            | zero => exact absurd HA.out (by simp [gasworkslaw13_ScaleCheaper.j5])
                            | succ kj62 =>
                              have H := HA.out
                              clear HA
                              simp only [gasworkslaw13_ScaleCheaper.j5] at H
                              by_cases c72 : x186_62 = true
                              · subst c72
                                have H1 : (some false) = some r := by rw [if_pos rfl] at H; exact H
                                clear H
                                have H := H1
                                clear H1
                                exact absurd ((Option.some.inj H).trans hr_) (by decide)
                              · replace c72 := Bool.eq_false_iff.mpr c72
                                subst c72
                                have H1 : ((scale_Dearest.f a0_0 a0_1 a0_2 a0_3 a0_4 a0_5 (mn 10000 (wrap64 (t301 + 1)))).bind fun bt318 => (if t301 = 10000 then (if bt318.2 = 0 then (if bt318.1 = t312 then ((gasworkslaw13_alive.f).bind fun t320 => (some t320)) else (some false)) else (some false)) else (if bt318.2 = 4 then (if bt318.1 = 0 then ((gasworkslaw13_alive.f).bind fun t321 => (some t321)) else (if bt318.2 = 0 then (if bt318.1 < a1 then ((gasworkslaw13_alive.f).bind fun t322 => (some t322)) else (some false)) else (some false))) else (if bt318.2 = 0 then (if bt318.1 < a1 then ((gasworkslaw13_alive.f).bind fun t323 => (some t323)) else (some false)) else (some false))))) = some r := by rw [if_neg (show ¬ (false = true) by decide)] at H; exact H
                                clear H
                                have H := H1
                                clear H1
                                obtain ⟨ji73, hji73⟩ : ∃ j_ : Int, (mn 10000 (wrap64 (t301 + 1))) = j_ := ⟨_, rfl⟩
                                replace H : ((scale_Dearest.f a0_0 a0_1 a0_2 a0_3 a0_4 a0_5 (ji73)).bind fun bt318 => (if t301 = 10000 then (if bt318.2 = 0 then (if bt318.1 = t312 then ((gasworkslaw13_alive.f).bind fun t320 => (some t320)) else (some false)) else (some false)) else (if bt318.2 = 4 then (if bt318.1 = 0 then ((gasworkslaw13_alive.f).bind fun t321 => (some t321)) else (if bt318.2 = 0 then (if bt318.1 < a1 then ((gasworkslaw13_alive.f).bind fun t322 => (some t322)) else (some false)) else (some false))) else (if bt318.2 = 0 then (if bt318.1 < a1 then ((gasworkslaw13_alive.f).bind fun t323 => (some t323)) else (some false)) else (some false))))) = some r := by first | (rw [hji73] at H; exact H) | (simp only [hji73] at H ⊢; exact H)
                                have hji73_ : (if (wrap64 (t301 + 1)) < 10000 then (wrap64 (t301 + 1)) else 10000) = ji73 := hji73
                                replace H := Option.bind_eq_some_iff.mp H
                                obtain ⟨⟨t318, t319⟩, A740, H⟩ := H
                                replace H : (if t301 = 10000 then (if t319 = 0 then (if t318 = t312 then ((gasworkslaw13_alive.f).bind fun t320 => (some t320)) else (some false)) else (some false)) else (if t319 = 4 then (if t318 = 0 then ((gasworkslaw13_alive.f).bind fun t321 => (some t321)) else (if t319 = 0 then (if t318 < a1 then ((gasworkslaw13_alive.f).bind fun t322 => (some t322)) else (some false)) else (some false))) else (if t319 = 0 then (if t318 < a1 then ((gasworkslaw13_alive.f).bind fun t323 => (some t323)) else (some false)) else (some false)))) = some r := H
                                have A74 := Aside0.mk A740
                                clear A740
                                by_cases c75 : t301 = 10000
                                · rw [if_pos c75] at H
                                  have c75b0 : (t301 == 10000) = true := beq_iff_eq.mpr c75
                                  have c75b1 : (t301 != 10000) = false := bne_eq_false_iff_eq.mpr c75
                                  clear c75
                                  by_cases c76 : t319 = 0
                                  · rw [if_pos c76] at H
                                    have c76b0 : (t319 == 0) = true := beq_iff_eq.mpr c76
                                    have c76b1 : (t319 != 0) = false := bne_eq_false_iff_eq.mpr c76
                                    clear c76
                                    by_cases c77 : t318 = t312
                                    · rw [if_pos c77] at H
                                      have c77b0 : (t318 == t312) = true := beq_iff_eq.mpr c77
                                      have c77b1 : (t318 != t312) = false := bne_eq_false_iff_eq.mpr c77
                                      clear c77
                                      replace H := Option.bind_eq_some_iff.mp H
                                      obtain ⟨t320, A780, H⟩ := H
                                      replace H : (some t320) = some r := H
                                      have A78 := Aside0.mk A780
                                      clear A780
                                      obtain rfl := Option.some.inj H
                                      have hcz79_0 : wc.cell? ⟨gb300, 0, none⟩ = some (.int .i64 a0_0) := (blk_cell BK300.out 0).trans rfl
                                      have hcz79_1 : wc.cell? ⟨gb300, 1, none⟩ = some (.int .i64 a0_1) := (blk_cell BK300.out 1).trans rfl
                                      have hcz79_2 : wc.cell? ⟨gb300, 2, none⟩ = some (.int .i64 a0_2) := (blk_cell BK300.out 2).trans rfl
                                      have hcz79_3 : wc.cell? ⟨gb300, 3, none⟩ = some (.int .i64 a0_3) := (blk_cell BK300.out 3).trans rfl
                                      have hcz79_4 : wc.cell? ⟨gb300, 4, none⟩ = some (.int .i64 a0_4) := (blk_cell BK300.out 4).trans rfl
                                      have hcz79_5 : wc.cell? ⟨gb300, 5, none⟩ = some (.int .i64 a0_5) := (blk_cell BK300.out 5).trans rfl
                                      have hfz79_0 := blk_frozen BK300.out 0
                                      have hfz79_1 := blk_frozen BK300.out 1
                                      have hfz79_2 := blk_frozen BK300.out 2
                                      have hfz79_3 := blk_frozen BK300.out 3
                                      have hfz79_4 := blk_frozen BK300.out 4
                                      have hfz79_5 := blk_frozen BK300.out 5
                                      go_wp2_with (first | ((with_reducible refine gate_callee (f := 12) rfl ?_); refine goesL_ (some 192) rfl rfl Try.func12 (by kernel_rfl) rfl #[.agg #[.int .i64 a0_0, .int .i64 a0_1, .int .i64 a0_2, .int .i64 a0_3, .int .i64 a0_4, .int .i64 a0_5], .int .i64 ji73] rfl (by (try simp only [List.map_toArray, List.map_cons, List.map_nil]); first | done | (simp only [hji73]; rfl) | rfl | (simp only [List.length_drop, List.length_take]; rfl)) ?_; (with_reducible refine (scale_Dearest.calls a0_0 a0_1 a0_2 a0_3 a0_4 a0_5 ji73 t318 t319 _ A74.out).mono ?_); rintro e w80 ⟨rfl, hb⟩; refine ⟨_, rfl, ?_⟩; have n0_ := Aside0.mk (blk_below (g := gb300) (o := .cells #[.int .i64 a0_0, .int .i64 a0_1, .int .i64 a0_2, .int .i64 a0_3, .int .i64 a0_4, .int .i64 a0_5] 23 (0, 0)) (by (with_reducible repeat (first | refine blk_drewN ?_ _ | refine blk_drew ?_ | refine blk_alloc ?_ _)); exact BK300.out) hb); have n1_ := Aside0.mk (below_step (by repeat (first | (with_reducible first | exact HB.out | apply below_alloc | apply pw_below_drewN | apply below_drew1 | refine below_set ?_ GE300.out) | exact HB.out)) hb); clear BK300; clear HB; have BK300 := n0_; have HB := n1_; clear n0_ n1_; (try clear hb); (try clear hb2); (try clear hk); (try clear hi)) | (go_at_call 14; (with_reducible refine (gasworkslaw13_alive.calls  t320 _ A78.out).mono ?_); rintro e w81 ⟨rfl, hb⟩; have n0_ := Aside0.mk (blk_below (g := gb300) (o := .cells #[.int .i64 a0_0, .int .i64 a0_1, .int .i64 a0_2, .int .i64 a0_3, .int .i64 a0_4, .int .i64 a0_5] 23 (0, 0)) (by (with_reducible repeat (first | refine blk_drewN ?_ _ | refine blk_drew ?_ | refine blk_alloc ?_ _)); exact BK300.out) hb); have n1_ := Aside0.mk (below_step (by repeat (first | (with_reducible first | exact HB.out | apply below_alloc | apply pw_below_drewN | apply below_drew1 | refine below_set ?_ GE300.out) | exact HB.out)) hb); clear BK300; clear HB; have BK300 := n0_; have HB := n1_; clear n0_ n1_; (try clear hb); (try clear hb2); (try clear hk); (try clear hi)))
                                      go_ret
                                      exact ⟨by first | rfl | (simp [errW_none, errW_some] <;> rfl) | (simp only [← hji20, ← hji73]; first | rfl | (simp [errW_none, errW_some] <;> rfl)) | (simp [*, errW_none, errW_some] <;> rfl), by repeat (first | (with_reducible first | exact HB.out | apply below_alloc | apply pw_below_drewN | apply below_drew1 | refine below_set ?_ GE300.out) | exact HB.out)⟩
                                    · rw [if_neg c77] at H
                                      have c77b0 : (t318 == t312) = false := beq_eq_false_iff_ne.mpr c77
                                      have c77b1 : (t318 != t312) = true := bne_iff_ne.mpr c77
                                      exact absurd ((Option.some.inj H).trans hr_) (by decide)
                                  · rw [if_neg c76] at H
                                    have c76b0 : (t319 == 0) = false := beq_eq_false_iff_ne.mpr c76
                                    have c76b1 : (t319 != 0) = true := bne_iff_ne.mpr c76
                                    exact absurd ((Option.some.inj H).trans hr_) (by decide)
                                · rw [if_neg c75] at H
                                  have c75b0 : (t301 == 10000) = false := beq_eq_false_iff_ne.mpr c75
                                  have c75b1 : (t301 != 10000) = true := bne_iff_ne.mpr c75
                                  by_cases c86 : t319 = 4
                                  · rw [if_pos c86] at H
                                    have c86b0 : (t319 == 4) = true := beq_iff_eq.mpr c86
                                    have c86b1 : (t319 != 4) = false := bne_eq_false_iff_eq.mpr c86
                                    clear c86
                                    by_cases c87 : t318 = 0
                                    · rw [if_pos c87] at H
                                      have c87b0 : (t318 == 0) = true := beq_iff_eq.mpr c87
                                      have c87b1 : (t318 != 0) = false := bne_eq_false_iff_eq.mpr c87
                                      clear c87
                                      replace H := Option.bind_eq_some_iff.mp H
                                      obtain ⟨t321, A880, H⟩ := H
                                      replace H : (some t321) = some r := H
                                      have A88 := Aside0.mk A880
                                      clear A880
                                      obtain rfl := Option.some.inj H
                                      have hcz89_0 : wc.cell? ⟨gb300, 0, none⟩ = some (.int .i64 a0_0) := (blk_cell BK300.out 0).trans rfl
                                      have hcz89_1 : wc.cell? ⟨gb300, 1, none⟩ = some (.int .i64 a0_1) := (blk_cell BK300.out 1).trans rfl
                                      have hcz89_2 : wc.cell? ⟨gb300, 2, none⟩ = some (.int .i64 a0_2) := (blk_cell BK300.out 2).trans rfl
                                      have hcz89_3 : wc.cell? ⟨gb300, 3, none⟩ = some (.int .i64 a0_3) := (blk_cell BK300.out 3).trans rfl
                                      have hcz89_4 : wc.cell? ⟨gb300, 4, none⟩ = some (.int .i64 a0_4) := (blk_cell BK300.out 4).trans rfl
                                      have hcz89_5 : wc.cell? ⟨gb300, 5, none⟩ = some (.int .i64 a0_5) := (blk_cell BK300.out 5).trans rfl
                                      have hfz89_0 := blk_frozen BK300.out 0
                                      have hfz89_1 := blk_frozen BK300.out 1
                                      have hfz89_2 := blk_frozen BK300.out 2
                                      have hfz89_3 := blk_frozen BK300.out 3
                                      have hfz89_4 := blk_frozen BK300.out 4
                                      have hfz89_5 := blk_frozen BK300.out 5
                                      go_wp2_with (first | ((with_reducible refine gate_callee (f := 12) rfl ?_); refine goesL_ (some 192) rfl rfl Try.func12 (by kernel_rfl) rfl #[.agg #[.int .i64 a0_0, .int .i64 a0_1, .int .i64 a0_2, .int .i64 a0_3, .int .i64 a0_4, .int .i64 a0_5], .int .i64 ji73] rfl (by (try simp only [List.map_toArray, List.map_cons, List.map_nil]); first | done | (simp only [hji73]; rfl) | rfl | (simp only [List.length_drop, List.length_take]; rfl)) ?_; (with_reducible refine (scale_Dearest.calls a0_0 a0_1 a0_2 a0_3 a0_4 a0_5 ji73 t318 t319 _ A74.out).mono ?_); rintro e w90 ⟨rfl, hb⟩; refine ⟨_, rfl, ?_⟩; have n0_ := Aside0.mk (blk_below (g := gb300) (o := .cells #[.int .i64 a0_0, .int .i64 a0_1, .int .i64 a0_2, .int .i64 a0_3, .int .i64 a0_4, .int .i64 a0_5] 23 (0, 0)) (by (with_reducible repeat (first | refine blk_drewN ?_ _ | refine blk_drew ?_ | refine blk_alloc ?_ _)); exact BK300.out) hb); have n1_ := Aside0.mk (below_step (by repeat (first | (with_reducible first | exact HB.out | apply below_alloc | apply pw_below_drewN | apply below_drew1 | refine below_set ?_ GE300.out) | exact HB.out)) hb); clear BK300; clear HB; have BK300 := n0_; have HB := n1_; clear n0_ n1_; (try clear hb); (try clear hb2); (try clear hk); (try clear hi)) | (go_at_call 14; (with_reducible refine (gasworkslaw13_alive.calls  t321 _ A88.out).mono ?_); rintro e w91 ⟨rfl, hb⟩; have n0_ := Aside0.mk (blk_below (g := gb300) (o := .cells #[.int .i64 a0_0, .int .i64 a0_1, .int .i64 a0_2, .int .i64 a0_3, .int .i64 a0_4, .int .i64 a0_5] 23 (0, 0)) (by (with_reducible repeat (first | refine blk_drewN ?_ _ | refine blk_drew ?_ | refine blk_alloc ?_ _)); exact BK300.out) hb); have n1_ := Aside0.mk (below_step (by repeat (first | (with_reducible first | exact HB.out | apply below_alloc | apply pw_below_drewN | apply below_drew1 | refine below_set ?_ GE300.out) | exact HB.out)) hb); clear BK300; clear HB; have BK300 := n0_; have HB := n1_; clear n0_ n1_; (try clear hb); (try clear hb2); (try clear hk); (try clear hi)))
                                      go_ret
                                      exact ⟨by first | rfl | (simp [errW_none, errW_some] <;> rfl) | (simp only [← hji20, ← hji73]; first | rfl | (simp [errW_none, errW_some] <;> rfl)) | (simp [*, errW_none, errW_some] <;> rfl), by repeat (first | (with_reducible first | exact HB.out | apply below_alloc | apply pw_below_drewN | apply below_drew1 | refine below_set ?_ GE300.out) | exact HB.out)⟩
                                    · rw [if_neg c87] at H
                                      have c87b0 : (t318 == 0) = false := beq_eq_false_iff_ne.mpr c87
                                      have c87b1 : (t318 != 0) = true := bne_iff_ne.mpr c87
                                      by_cases c92 : t319 = 0
                                      · rw [if_pos c92] at H
                                        have c92b0 : (t319 == 0) = true := beq_iff_eq.mpr c92
                                        have c92b1 : (t319 != 0) = false := bne_eq_false_iff_eq.mpr c92
                                        clear c92
                                        by_cases c93 : t318 < a1
                                        · rw [if_pos c93] at H
                                          have c93b0 : decide (t318 < a1) = true := decide_eq_true c93
                                          clear c93
                                          replace H := Option.bind_eq_some_iff.mp H
                                          obtain ⟨t322, A940, H⟩ := H
                                          replace H : (some t322) = some r := H
                                          have A94 := Aside0.mk A940
                                          clear A940
                                          obtain rfl := Option.some.inj H
                                          have hcz95_0 : wc.cell? ⟨gb300, 0, none⟩ = some (.int .i64 a0_0) := (blk_cell BK300.out 0).trans rfl
                                          have hcz95_1 : wc.cell? ⟨gb300, 1, none⟩ = some (.int .i64 a0_1) := (blk_cell BK300.out 1).trans rfl
                                          have hcz95_2 : wc.cell? ⟨gb300, 2, none⟩ = some (.int .i64 a0_2) := (blk_cell BK300.out 2).trans rfl
                                          have hcz95_3 : wc.cell? ⟨gb300, 3, none⟩ = some (.int .i64 a0_3) := (blk_cell BK300.out 3).trans rfl
                                          have hcz95_4 : wc.cell? ⟨gb300, 4, none⟩ = some (.int .i64 a0_4) := (blk_cell BK300.out 4).trans rfl
                                          have hcz95_5 : wc.cell? ⟨gb300, 5, none⟩ = some (.int .i64 a0_5) := (blk_cell BK300.out 5).trans rfl
                                          have hfz95_0 := blk_frozen BK300.out 0
                                          have hfz95_1 := blk_frozen BK300.out 1
                                          have hfz95_2 := blk_frozen BK300.out 2
                                          have hfz95_3 := blk_frozen BK300.out 3
                                          have hfz95_4 := blk_frozen BK300.out 4
                                          have hfz95_5 := blk_frozen BK300.out 5
                                          go_wp2_with (first | ((with_reducible refine gate_callee (f := 12) rfl ?_); refine goesL_ (some 192) rfl rfl Try.func12 (by kernel_rfl) rfl #[.agg #[.int .i64 a0_0, .int .i64 a0_1, .int .i64 a0_2, .int .i64 a0_3, .int .i64 a0_4, .int .i64 a0_5], .int .i64 ji73] rfl (by (try simp only [List.map_toArray, List.map_cons, List.map_nil]); first | done | (simp only [hji73]; rfl) | rfl | (simp only [List.length_drop, List.length_take]; rfl)) ?_; (with_reducible refine (scale_Dearest.calls a0_0 a0_1 a0_2 a0_3 a0_4 a0_5 ji73 t318 t319 _ A74.out).mono ?_); rintro e w96 ⟨rfl, hb⟩; refine ⟨_, rfl, ?_⟩; have n0_ := Aside0.mk (blk_below (g := gb300) (o := .cells #[.int .i64 a0_0, .int .i64 a0_1, .int .i64 a0_2, .int .i64 a0_3, .int .i64 a0_4, .int .i64 a0_5] 23 (0, 0)) (by (with_reducible repeat (first | refine blk_drewN ?_ _ | refine blk_drew ?_ | refine blk_alloc ?_ _)); exact BK300.out) hb); have n1_ := Aside0.mk (below_step (by repeat (first | (with_reducible first | exact HB.out | apply below_alloc | apply pw_below_drewN | apply below_drew1 | refine below_set ?_ GE300.out) | exact HB.out)) hb); clear BK300; clear HB; have BK300 := n0_; have HB := n1_; clear n0_ n1_; (try clear hb); (try clear hb2); (try clear hk); (try clear hi)) | (go_at_call 14; (with_reducible refine (gasworkslaw13_alive.calls  t322 _ A94.out).mono ?_); rintro e w97 ⟨rfl, hb⟩; have n0_ := Aside0.mk (blk_below (g := gb300) (o := .cells #[.int .i64 a0_0, .int .i64 a0_1, .int .i64 a0_2, .int .i64 a0_3, .int .i64 a0_4, .int .i64 a0_5] 23 (0, 0)) (by (with_reducible repeat (first | refine blk_drewN ?_ _ | refine blk_drew ?_ | refine blk_alloc ?_ _)); exact BK300.out) hb); have n1_ := Aside0.mk (below_step (by repeat (first | (with_reducible first | exact HB.out | apply below_alloc | apply pw_below_drewN | apply below_drew1 | refine below_set ?_ GE300.out) | exact HB.out)) hb); clear BK300; clear HB; have BK300 := n0_; have HB := n1_; clear n0_ n1_; (try clear hb); (try clear hb2); (try clear hk); (try clear hi)))
                                          go_ret
                                          exact ⟨by first | rfl | (simp [errW_none, errW_some] <;> rfl) | (simp only [← hji20, ← hji73]; first | rfl | (simp [errW_none, errW_some] <;> rfl)) | (simp [*, errW_none, errW_some] <;> rfl), by repeat (first | (with_reducible first | exact HB.out | apply below_alloc | apply pw_below_drewN | apply below_drew1 | refine below_set ?_ GE300.out) | exact HB.out)⟩
                                        · rw [if_neg c93] at H
                                          have c93b0 : decide (t318 < a1) = false := decide_eq_false c93
                                          clear c93
                                          exact absurd ((Option.some.inj H).trans hr_) (by decide)
                                      · rw [if_neg c92] at H
                                        have c92b0 : (t319 == 0) = false := beq_eq_false_iff_ne.mpr c92
                                        have c92b1 : (t319 != 0) = true := bne_iff_ne.mpr c92
                                        exact absurd ((Option.some.inj H).trans hr_) (by decide)
                                  · rw [if_neg c86] at H
                                    have c86b0 : (t319 == 4) = false := beq_eq_false_iff_ne.mpr c86
                                    have c86b1 : (t319 != 4) = true := bne_iff_ne.mpr c86
                                    by_cases c102 : t319 = 0
                                    · rw [if_pos c102] at H
                                      have c102b0 : (t319 == 0) = true := beq_iff_eq.mpr c102
                                      have c102b1 : (t319 != 0) = false := bne_eq_false_iff_eq.mpr c102
                                      clear c102
                                      by_cases c103 : t318 < a1
                                      · rw [if_pos c103] at H
                                        have c103b0 : decide (t318 < a1) = true := decide_eq_true c103
                                        clear c103
                                        replace H := Option.bind_eq_some_iff.mp H
                                        obtain ⟨t323, A1040, H⟩ := H
                                        replace H : (some t323) = some r := H
                                        have A104 := Aside0.mk A1040
                                        clear A1040
                                        obtain rfl := Option.some.inj H
                                        have hcz105_0 : wc.cell? ⟨gb300, 0, none⟩ = some (.int .i64 a0_0) := (blk_cell BK300.out 0).trans rfl
                                        have hcz105_1 : wc.cell? ⟨gb300, 1, none⟩ = some (.int .i64 a0_1) := (blk_cell BK300.out 1).trans rfl
                                        have hcz105_2 : wc.cell? ⟨gb300, 2, none⟩ = some (.int .i64 a0_2) := (blk_cell BK300.out 2).trans rfl
                                        have hcz105_3 : wc.cell? ⟨gb300, 3, none⟩ = some (.int .i64 a0_3) := (blk_cell BK300.out 3).trans rfl
                                        have hcz105_4 : wc.cell? ⟨gb300, 4, none⟩ = some (.int .i64 a0_4) := (blk_cell BK300.out 4).trans rfl
                                        have hcz105_5 : wc.cell? ⟨gb300, 5, none⟩ = some (.int .i64 a0_5) := (blk_cell BK300.out 5).trans rfl
                                        have hfz105_0 := blk_frozen BK300.out 0
                                        have hfz105_1 := blk_frozen BK300.out 1
                                        have hfz105_2 := blk_frozen BK300.out 2
                                        have hfz105_3 := blk_frozen BK300.out 3
                                        have hfz105_4 := blk_frozen BK300.out 4
                                        have hfz105_5 := blk_frozen BK300.out 5
                                        go_wp2_with (first | ((with_reducible refine gate_callee (f := 12) rfl ?_); refine goesL_ (some 192) rfl rfl Try.func12 (by kernel_rfl) rfl #[.agg #[.int .i64 a0_0, .int .i64 a0_1, .int .i64 a0_2, .int .i64 a0_3, .int .i64 a0_4, .int .i64 a0_5], .int .i64 ji73] rfl (by (try simp only [List.map_toArray, List.map_cons, List.map_nil]); first | done | (simp only [hji73]; rfl) | rfl | (simp only [List.length_drop, List.length_take]; rfl)) ?_; (with_reducible refine (scale_Dearest.calls a0_0 a0_1 a0_2 a0_3 a0_4 a0_5 ji73 t318 t319 _ A74.out).mono ?_); rintro e w106 ⟨rfl, hb⟩; refine ⟨_, rfl, ?_⟩; have n0_ := Aside0.mk (blk_below (g := gb300) (o := .cells #[.int .i64 a0_0, .int .i64 a0_1, .int .i64 a0_2, .int .i64 a0_3, .int .i64 a0_4, .int .i64 a0_5] 23 (0, 0)) (by (with_reducible repeat (first | refine blk_drewN ?_ _ | refine blk_drew ?_ | refine blk_alloc ?_ _)); exact BK300.out) hb); have n1_ := Aside0.mk (below_step (by repeat (first | (with_reducible first | exact HB.out | apply below_alloc | apply pw_below_drewN | apply below_drew1 | refine below_set ?_ GE300.out) | exact HB.out)) hb); clear BK300; clear HB; have BK300 := n0_; have HB := n1_; clear n0_ n1_; (try clear hb); (try clear hb2); (try clear hk); (try clear hi)) | (go_at_call 14; (with_reducible refine (gasworkslaw13_alive.calls  t323 _ A104.out).mono ?_); rintro e w107 ⟨rfl, hb⟩; have n0_ := Aside0.mk (blk_below (g := gb300) (o := .cells #[.int .i64 a0_0, .int .i64 a0_1, .int .i64 a0_2, .int .i64 a0_3, .int .i64 a0_4, .int .i64 a0_5] 23 (0, 0)) (by (with_reducible repeat (first | refine blk_drewN ?_ _ | refine blk_drew ?_ | refine blk_alloc ?_ _)); exact BK300.out) hb); have n1_ := Aside0.mk (below_step (by repeat (first | (with_reducible first | exact HB.out | apply below_alloc | apply pw_below_drewN | apply below_drew1 | refine below_set ?_ GE300.out) | exact HB.out)) hb); clear BK300; clear HB; have BK300 := n0_; have HB := n1_; clear n0_ n1_; (try clear hb); (try clear hb2); (try clear hk); (try clear hi)))
                                        go_ret
                                        exact ⟨by first | rfl | (simp [errW_none, errW_some] <;> rfl) | (simp only [← hji20, ← hji73]; first | rfl | (simp [errW_none, errW_some] <;> rfl)) | (simp [*, errW_none, errW_some] <;> rfl), by repeat (first | (with_reducible first | exact HB.out | apply below_alloc | apply pw_below_drewN | apply below_drew1 | refine below_set ?_ GE300.out) | exact HB.out)⟩
                                      · rw [if_neg c103] at H
                                        have c103b0 : decide (t318 < a1) = false := decide_eq_false c103
                                        clear c103
                                        exact absurd ((Option.some.inj H).trans hr_) (by decide)
                                    · rw [if_neg c102] at H
                                      have c102b0 : (t319 == 0) = false := beq_eq_false_iff_ne.mpr c102
                                      have c102b1 : (t319 != 0) = true := bne_iff_ne.mpr c102
                                      exact absurd ((Option.some.inj H).trans hr_) (by decide)
  · rw [if_neg c5] at H
    have c5b0 : (t302 == 0) = false := beq_eq_false_iff_ne.mpr c5
    have c5b1 : (t302 != 0) = true := bne_iff_ne.mpr c5
    by_cases c112 : t301 = 0
    · rw [if_pos c112] at H
      have c112b0 : (t301 == 0) = true := beq_iff_eq.mpr c112
      have c112b1 : (t301 != 0) = false := bne_eq_false_iff_eq.mpr c112
      clear c112
      replace H := Option.bind_eq_some_iff.mp H
      obtain ⟨t303, A1130, H⟩ := H
      replace H : (if ((t302 == 1) == (!t303)) = true then ((gasworkslaw13_alive.f).bind fun t304 => (some t304)) else (some false)) = some r := H
      have A113 := Aside0.mk A1130
      clear A1130
      by_cases c114 : ((t302 == 1) == (!t303)) = true
      · rw [if_pos c114] at H
        have c114b0 : ((t302 == 1) == (!t303)) = true := c114
        (try (have c114b1 : decide ((t302 == 1) = (!t303)) = true := by simpa using c114))
        (try (have c114b2 : ((t302 == 1) == (!t303)) = true := by simpa using c114))
        clear c114
        replace H := Option.bind_eq_some_iff.mp H
        obtain ⟨t304, A1150, H⟩ := H
        replace H : (some t304) = some r := H
        have A115 := Aside0.mk A1150
        clear A1150
        obtain rfl := Option.some.inj H
        go_enter Try.func7, Try.ntmps7
        go_wp2_with (first | ((with_reducible refine gate_dst (N := 3) rfl ?_); refine box_event ?hg (N := 3) ?hd (cs := #[.int .i64 a0_0, .int .i64 a0_1, .int .i64 a0_2, .int .i64 a0_3, .int .i64 a0_4, .int .i64 a0_5]) (t := 23) ?hr ?_; (case hd => rfl); (case hg => rfl); (case hr => first | (go_simp; done) | (go_simp; rfl)); intro gb300 hg w116 hbox hb; have n0_ := Aside0.mk (below_step (by repeat (first | (with_reducible first | exact HB.out | apply below_alloc | apply pw_below_drewN | apply below_drew1) | exact HB.out)) hb); have n1_ := Aside0.mk (hbox); have n2_ := Aside0.mk ((by rw [hg]; exact (below_size (by repeat (first | (with_reducible first | exact HB.out | apply below_alloc | apply pw_below_drewN | apply below_drew1) | exact HB.out))) : w.heap.size ≤ gb300)); have n3_ := Aside0.mk ((by rw [hg]; exact (below_size (by repeat (first | (with_reducible first | exact HB.out | apply below_alloc | apply pw_below_drewN | apply below_drew1) | exact HB.out))) : w.heap.size ≤ gb300)); clear HB; have HB := n0_; have BK300 := n1_; have GW300 := n2_; have GE300 := n3_; clear n0_ n1_ n2_ n3_; clear hb hbox hg; have hcz117_0 : w116.cell? ⟨gb300, 0, none⟩ = some (.int .i64 a0_0) := (blk_cell BK300.out 0).trans rfl; have hcz117_1 : w116.cell? ⟨gb300, 1, none⟩ = some (.int .i64 a0_1) := (blk_cell BK300.out 1).trans rfl; have hcz117_2 : w116.cell? ⟨gb300, 2, none⟩ = some (.int .i64 a0_2) := (blk_cell BK300.out 2).trans rfl; have hcz117_3 : w116.cell? ⟨gb300, 3, none⟩ = some (.int .i64 a0_3) := (blk_cell BK300.out 3).trans rfl; have hcz117_4 : w116.cell? ⟨gb300, 4, none⟩ = some (.int .i64 a0_4) := (blk_cell BK300.out 4).trans rfl; have hcz117_5 : w116.cell? ⟨gb300, 5, none⟩ = some (.int .i64 a0_5) := (blk_cell BK300.out 5).trans rfl; have hfz117_0 := blk_frozen BK300.out 0; have hfz117_1 := blk_frozen BK300.out 1; have hfz117_2 := blk_frozen BK300.out 2; have hfz117_3 := blk_frozen BK300.out 3; have hfz117_4 := blk_frozen BK300.out 4; have hfz117_5 := blk_frozen BK300.out 5) | ((with_reducible refine gate_callee (f := 10) rfl ?_); refine goesL_ (some 26) rfl rfl Try.func10 (by kernel_rfl) rfl #[.agg #[.int .i64 a0_0, .int .i64 a0_1, .int .i64 a0_2, .int .i64 a0_3, .int .i64 a0_4, .int .i64 a0_5], .int .i64 a1] rfl (by (try simp only [List.map_toArray, List.map_cons, List.map_nil]); first | done | rfl | (simp only [List.length_drop, List.length_take]; rfl)) ?_; (with_reducible refine (scale_Rate.calls a0_0 a0_1 a0_2 a0_3 a0_4 a0_5 a1 t301 t302 _ A4.out).mono ?_); rintro e w118 ⟨rfl, hb⟩; refine ⟨_, rfl, ?_⟩; have n0_ := Aside0.mk (blk_below (g := gb300) (o := .cells #[.int .i64 a0_0, .int .i64 a0_1, .int .i64 a0_2, .int .i64 a0_3, .int .i64 a0_4, .int .i64 a0_5] 23 (0, 0)) (by (with_reducible repeat (first | refine blk_drewN ?_ _ | refine blk_drew ?_ | refine blk_alloc ?_ _)); exact BK300.out) hb); have n1_ := Aside0.mk (below_step (by repeat (first | (with_reducible first | exact HB.out | apply below_alloc | apply pw_below_drewN | apply below_drew1 | refine below_set ?_ GE300.out) | exact HB.out)) hb); clear BK300; clear HB; have BK300 := n0_; have HB := n1_; clear n0_ n1_; (try clear hb); (try clear hb2); (try clear hk); (try clear hi); have hcz119_0 : w118.cell? ⟨gb300, 0, none⟩ = some (.int .i64 a0_0) := (blk_cell BK300.out 0).trans rfl; have hcz119_1 : w118.cell? ⟨gb300, 1, none⟩ = some (.int .i64 a0_1) := (blk_cell BK300.out 1).trans rfl; have hcz119_2 : w118.cell? ⟨gb300, 2, none⟩ = some (.int .i64 a0_2) := (blk_cell BK300.out 2).trans rfl; have hcz119_3 : w118.cell? ⟨gb300, 3, none⟩ = some (.int .i64 a0_3) := (blk_cell BK300.out 3).trans rfl; have hcz119_4 : w118.cell? ⟨gb300, 4, none⟩ = some (.int .i64 a0_4) := (blk_cell BK300.out 4).trans rfl; have hcz119_5 : w118.cell? ⟨gb300, 5, none⟩ = some (.int .i64 a0_5) := (blk_cell BK300.out 5).trans rfl; have hfz119_0 := blk_frozen BK300.out 0; have hfz119_1 := blk_frozen BK300.out 1; have hfz119_2 := blk_frozen BK300.out 2; have hfz119_3 := blk_frozen BK300.out 3; have hfz119_4 := blk_frozen BK300.out 4; have hfz119_5 := blk_frozen BK300.out 5) | (go_at_call 23; (with_reducible refine (gasworksref13_Act.calls a0_0 a0_1 a0_2 a0_3 a0_4 a0_5 t303 _ A113.out).mono ?_); rintro e w120 ⟨rfl, hb⟩; have n0_ := Aside0.mk (blk_below (g := gb300) (o := .cells #[.int .i64 a0_0, .int .i64 a0_1, .int .i64 a0_2, .int .i64 a0_3, .int .i64 a0_4, .int .i64 a0_5] 23 (0, 0)) (by (with_reducible repeat (first | refine blk_drewN ?_ _ | refine blk_drew ?_ | refine blk_alloc ?_ _)); exact BK300.out) hb); have n1_ := Aside0.mk (below_step (by repeat (first | (with_reducible first | exact HB.out | apply below_alloc | apply pw_below_drewN | apply below_drew1 | refine below_set ?_ GE300.out) | exact HB.out)) hb); clear BK300; clear HB; have BK300 := n0_; have HB := n1_; clear n0_ n1_; (try clear hb); (try clear hb2); (try clear hk); (try clear hi)) | (go_at_call 14; (with_reducible refine (gasworkslaw13_alive.calls  t304 _ A115.out).mono ?_); rintro e w121 ⟨rfl, hb⟩; have n0_ := Aside0.mk (blk_below (g := gb300) (o := .cells #[.int .i64 a0_0, .int .i64 a0_1, .int .i64 a0_2, .int .i64 a0_3, .int .i64 a0_4, .int .i64 a0_5] 23 (0, 0)) (by (with_reducible repeat (first | refine blk_drewN ?_ _ | refine blk_drew ?_ | refine blk_alloc ?_ _)); exact BK300.out) hb); have n1_ := Aside0.mk (below_step (by repeat (first | (with_reducible first | exact HB.out | apply below_alloc | apply pw_below_drewN | apply below_drew1 | refine below_set ?_ GE300.out) | exact HB.out)) hb); clear BK300; clear HB; have BK300 := n0_; have HB := n1_; clear n0_ n1_; (try clear hb); (try clear hb2); (try clear hk); (try clear hi)))
        go_ret
        exact ⟨by first | rfl | (simp [errW_none, errW_some] <;> rfl) | (simp [*, errW_none, errW_some] <;> rfl), by repeat (first | (with_reducible first | exact HB.out | apply below_alloc | apply pw_below_drewN | apply below_drew1 | refine below_set ?_ GE300.out) | exact HB.out)⟩
      · rw [if_neg c114] at H
        have c114b0 : ((t302 == 1) == (!t303)) = false := by simpa using c114
        (try (have c114b1 : decide ((t302 == 1) = (!t303)) = false := by simpa using c114))
        (try (have c114b2 : ((t302 == 1) == (!t303)) = false := by simpa using c114))
        (try (have c114b3 : ¬ ((t302 == 1) = (!t303)) := by simpa using c114))
        clear c114
        exact absurd ((Option.some.inj H).trans hr_) (by decide)
    · rw [if_neg c112] at H
      have c112b0 : (t301 == 0) = false := beq_eq_false_iff_ne.mpr c112
      have c112b1 : (t301 != 0) = true := bne_iff_ne.mpr c112
      exact absurd ((Option.some.inj H).trans hr_) (by decide)

end Go.Proofs.Ytnammdkpejocmaa.Print
