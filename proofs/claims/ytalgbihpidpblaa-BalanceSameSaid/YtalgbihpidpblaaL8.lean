/- BalanceSame: its walks and its plain law, joined. -/
import Derived.Test.YtalgbihpidpblaaME
import Derived.Test.YtalgbihpidpblaaMH
import Derived.Test.YtalgbihpidpblaaRow0
namespace Go.Proofs.Ytalgbihpidpblaa.Print
open Go.RowKit Go.Shelf Go.Proofs.YtalgbihpidpblaaW.PrintWords Go.Proofs.YtalgbihpidpblaaW.PrintLast Go.Proofs.YtalgbihpidpblaaW.PrintMore
set_option linter.unusedVariables false
set_option linter.unusedSimpArgs false

theorem wrong_state (pl : Int) (l : List S47) (hp : isPlantB pl l = true) (he : errS pl l = 6) : wrongS pl l = (listS (((setsL pl).find? (wrongB l)).getD 0), 0) := by
  unfold wrongS
  rw [if_pos hp]
  unfold errS at he
  rw [if_pos hp] at he
  by_cases h : ((setsL pl).find? (wrongB l)).isSome = true
  · rw [if_pos h]
  · rw [if_neg h] at he
    cases he
theorem wrong_fine (pl : Int) (l : List S47) (hp : isPlantB pl l = true) (he : errS pl l = 0) : wrongS pl l = ([], 4) := by
  unfold wrongS
  rw [if_pos hp]
  unfold errS at he
  rw [if_pos hp] at he
  by_cases h : ((setsL pl).find? (wrongB l)).isSome = true
  · rw [if_pos h] at he
    cases he
  · rw [if_neg h]
theorem err_no (pl : Int) (l : List S47) (hp : isPlantB pl l = true) (hc : ¬ Cut l) : errS pl l = 6 := by
  rcases err_two pl l hp with ⟨_, h⟩ | ⟨h, _⟩
  · exact absurd h hc
  · exact h
theorem tight_no (pl : Int) (l : List S47) (hp : isPlantB pl l = true) (hc : ¬ Cut l) : tightS pl l = ([], 6) := by
  have he := err_no pl l hp hc
  unfold tightS
  rw [he, if_neg (by decide)]
theorem listS_len (s : Int) : (listS s).length ≤ 1000000 := Nat.le_trans (List.length_filter_le _ _) (by decide)
set_option maxHeartbeats 4000000 in
theorem same_any (pl : Int) (A : Option Addr) (c : Nat) (l : List S47) (a1 a2 : Int) (w : World) (hr : Kd.C k47 w A l.length l) (hc : l.length ≤ c) (hw1 : (Lit.int .u8 a1).wf = true) (hw2 : (Lit.int .u8 a2).wf = true) :
    Calls Try.prog 8 #[.agg #[.int .i64 pl, .slice A l.length c], .int .u8 a1, .int .u8 a2] w fun e w' => e = .returned (.bool true) ∧ Below w.heap.size w w' := by
  have hb : ∀ a : Int, (Lit.int .u8 a).wf = true → 0 ≤ a ∧ a ≤ 255 := fun a hw => by
    simp only [Lit.wf, Bool.and_eq_true, decide_eq_true_eq] at hw
    have h1 : IntKind.min .u8 = 0 := by decide
    have h2 : IntKind.max .u8 = 255 := by decide
    rw [h1, h2] at hw
    exact hw
  have b1 := hb a1 hw1
  have b2 := hb a2 hw2
  by_cases h16 : 16 ≤ l.length
  · exact same_long pl A c l a1 a2 w h16
  by_cases hp : isPlantB pl l = true
  · have pl2 := (plant_of pl l hp).1
    have pl8 := (plant_of pl l hp).2.1
    obtain ⟨z, hz⟩ : ∃ z, a2 % pl = z := ⟨_, rfl⟩
    obtain ⟨x, hx⟩ : ∃ x, a1 % (pl - 1) = x := ⟨_, rfl⟩
    obtain ⟨y, hy⟩ : ∃ y, (z + 1 + x) % pl = y := ⟨_, rfl⟩
    have z0 : 0 ≤ z := by rw [← hz]; exact Int.emod_nonneg _ (by omega)
    have z1 : z < pl := by rw [← hz]; exact Int.emod_lt_of_pos _ (by omega)
    have x0 : 0 ≤ x := by rw [← hx]; exact Int.emod_nonneg _ (by omega)
    have x1 : x < pl - 1 := by rw [← hx]; exact Int.emod_lt_of_pos _ (by omega)
    have y0 : 0 ≤ y := by rw [← hy]; exact Int.emod_nonneg _ (by omega)
    have y1 : y < pl := by rw [← hy]; exact Int.emod_lt_of_pos _ (by omega)
    have hzy : z ≠ y := by
      intro e
      by_cases hlt : z + 1 + x < pl
      · rw [Int.emod_eq_of_lt (by omega) hlt] at hy
        omega
      · rw [show z + 1 + x = (z + 1 + x - pl) + pl by omega, Int.add_emod_right, Int.emod_eq_of_lt (by omega) (by omega)] at hy
        omega
    have gt := turn_good pl l a1 hp
    have gm := more_good pl l z y hp (by omega) ⟨z0, z1⟩ ⟨y0, y1⟩ hzy
    have ct : Cut (turnL l a1) ↔ Cut l := cut_same (fun X => turn_phi X l a1)
    have cm : Cut (l ++ [⟨z, y, ⟨0, 0⟩⟩]) ↔ Cut l := cut_same (fun X => more_phi X l z y)
    have wt : wrongB (turnL l a1) = wrongB l := wrong_same (fun X => turn_phi X l a1)
    rcases err_two pl l hp with ⟨he, hcut⟩ | ⟨he, hcut⟩
    · have hct := ct.2 hcut
      have hcm := cm.2 hcut
      have q1 := tight_cut pl l hp hcut
      have q2 := tight_cut pl _ gt hct
      have q3 := tight_cut pl _ gm hcm
      have q4 : tightS pl (gasL pl l) = (tightL pl l, 0) := by rw [tight_cut pl _ (gas_good pl l hp hcut) (gas_cut pl l hp hcut), gas_tight pl l hp hcut]
      have l1 := tightL_len pl l
      have l2 : (tightL pl (turnL l a1)).length = l.length := by rw [tightL_len, turnL_len]
      have l3 : (tightL pl (l ++ [⟨z, y, ⟨0, 0⟩⟩])).length = l.length + 1 := by rw [tightL_len]; simp
      have r2 : ∀ k : Nat, k < l.length → rd_T45 (tightL pl (turnL l a1)) k = rd_T45 (tightL pl l) (((k : Int) + a1) % (l.length : Int)) := fun k hk => by
        rw [tightL_rd pl _ k (by rw [turnL_len]; exact hk), ← turn_tight pl l a1 k hk]
        rfl
      have r3 : ∀ k : Nat, k < l.length → rd_T45 (tightL pl (l ++ [⟨z, y, ⟨0, 0⟩⟩])) k = rd_T45 (tightL pl l) k := fun k hk => by
        rw [tightL_rd pl _ k (by simp; omega), tightL_rd pl l k hk]
        exact more_tight pl l z y k hk
      have r4 : rd_T45 (tightL pl (l ++ [⟨z, y, ⟨0, 0⟩⟩])) (l.length : Int) = ⟨0, 0⟩ := by
        rw [tightL_rd pl _ l.length (by simp)]
        exact more_last pl l z y gm hcm
      have r5 : ∀ k : Nat, k < l.length → rd_T45 (tightL pl l) k = tightAt pl l k := fun k hk => by
        rw [tightL_rd pl l k hk]
        rfl
      generalize tightL pl l = K at q1 q4 l1 r2 r3 r5
      generalize tightL pl (turnL l a1) = K2 at q2 l2 r2
      generalize tightL pl (l ++ [⟨z, y, ⟨0, 0⟩⟩]) = K3 at q3 l3 r3 r4
      exact same_fine pl A c l a1 a2 w hr hc (by omega) hp K K2 K3 [] 0 b1 b2 z x y hz hx hy l1 l2 l3 rfl (by decide) q1 (wrong_fine pl l hp he) q2 (wrong_fine pl _ gt (err_cut pl _ gt hct)) q3 r2 r3 r4 r5 q4
    · have hct : ¬ Cut (turnL l a1) := fun h => hcut (ct.1 h)
      have hcm : ¬ Cut (l ++ [⟨z, y, ⟨0, 0⟩⟩]) := fun h => hcut (cm.1 h)
      obtain ⟨wl, hwl⟩ : ∃ wl, wl = listS (((setsL pl).find? (wrongB l)).getD 0) := ⟨_, rfl⟩
      have q1 := wrong_state pl l hp he
      have q2 := wrong_state pl _ gt (err_no pl _ gt hct)
      have q3 : wl.length ≤ 1000000 := by rw [hwl]; exact listS_len _
      rw [wt] at q2
      rw [← hwl] at q1 q2
      exact same_state pl A c l a1 a2 w hr hc (by omega) hp [] [] [] wl wl.length b1 b2 z x y hz hx hy rfl rfl rfl rfl q3
        (tight_no pl l hp hcut) q1 (tight_no pl _ gt hct) q2 (tight_no pl _ gm hcm)
  · exact same_bad pl A c l a1 a2 w hr hc (by omega) (by simpa using hp)
end Go.Proofs.Ytalgbihpidpblaa.Print
