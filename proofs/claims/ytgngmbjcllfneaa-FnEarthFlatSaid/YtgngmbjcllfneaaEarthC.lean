/- Chapter 42, plain: the level at which least is moved. No program in sight. -/
import Derived.Test.YtgngmbjcllfneaaEarthB
import Derived.Test.YtgngmbjcllfneaaPx17
import Derived.Test.YtgngmbjcllfneaaPx18
set_option linter.unusedVariables false
set_option linter.unusedSimpArgs false
namespace Go.Proofs.Ytgngmbjcllfneaa.GridA
open Go.RowKit Go.Proofs.Ytgngmbjcllfneaa.P Go.Proofs.YtgngmbjcllfneaaW.PrintWords Go.Proofs.YtgngmbjcllfneaaW.PrintLast Go.Proofs.YtgngmbjcllfneaaW.PrintMore Go.Proofs.Ytgngmbjcllfneaa.Ev Go.Proofs.Ytgngmbjcllfneaa.Ints
/-- What is moved, at any level. -/
def mv (g : List (List Int)) (lv : Int) : Int := gs (pc lv) g + gs (pf lv) g
/-- What one level more takes. -/
def up (g : List (List Int)) (lv : Int) : Int := gs (fun x => if x ≤ lv then 1 else -1) g
theorem up_eq (g : List (List Int)) (lv : Int) : mv g (lv + 1) - mv g lv = up g lv := by
  unfold mv up
  rw [← gs_add, ← gs_add, ← gs_sub]
  exact gs_congr (fun _ _ x _ => by unfold pc pf mx; split <;> split <;> split <;> split <;> split <;> omega)
theorem up_mono (g : List (List Int)) {a b : Int} (h : a ≤ b) : up g a ≤ up g b := gs_le (fun _ _ x _ => by split <;> split <;> omega)
def flatP (g : List (List Int)) (lv : Int) : Bool := decide (mv g lv ≤ mv g (lv + 1))
theorem flatP_up (g : List (List Int)) (lv : Int) : flatP g lv = true ↔ 0 ≤ up g lv := by
  unfold flatP; rw [decide_eq_true_eq]; have := up_eq g lv; omega
theorem flatP_mono (g : List (List Int)) (a b : Int) (h : a ≤ b) (hp : flatP g a = true) : flatP g b = true := by
  rw [flatP_up] at *
  have := up_mono g h; omega
theorem moveV_in {g : List (List Int)} (h : okG g = true) {lv : Int} (hl : 0 ≤ lv ∧ lv ≤ 1000) : moveV g lv = mv g lv := by
  unfold moveV okE; rw [h, decide_eq_true hl]; rfl
/-- The least level of those at which least is moved. -/
def IsFlat (g : List (List Int)) (v : Int) : Prop := 0 ≤ v ∧ v ≤ 1000 ∧ (∀ t, 0 ≤ t → t < v → flatP g t = false) ∧ (∀ t, v ≤ t → t < 1000 → flatP g t = true)
theorem flat_below {g : List (List Int)} {v : Int} (h : IsFlat g v) (d : Nat) : ∀ t, 0 ≤ t → t + d ≤ v → mv g (t + d) + d ≤ mv g t := by
  induction d with
  | zero => intro t _ _; simp
  | succ d ih =>
    intro t h0 h1
    have a := ih t h0 (by push_cast at h1; omega)
    have b := h.2.2.1 (t + d) (by omega) (by push_cast at h1; omega)
    unfold flatP at b; rw [decide_eq_false_iff_not] at b
    have e : t + ((d + 1 : Nat) : Int) = t + d + 1 := by push_cast; omega
    rw [e]; push_cast; omega
theorem flat_above {g : List (List Int)} {v : Int} (h : IsFlat g v) (d : Nat) : v + d ≤ 1000 → mv g v ≤ mv g (v + d) := by
  induction d with
  | zero => intro _; simp
  | succ d ih =>
    intro h1
    have a := ih (by push_cast at h1; omega)
    have b := h.2.2.2 (v + d) (by omega) (by push_cast at h1; omega)
    unfold flatP at b; rw [decide_eq_true_eq] at b
    have e : v + ((d + 1 : Nat) : Int) = v + d + 1 := by push_cast; omega
    rw [e]; omega
theorem flat_least {g : List (List Int)} {v : Int} (h : IsFlat g v) {t : Int} (h0 : 0 ≤ t) (h1 : t ≤ 1000) : mv g v ≤ mv g t := by
  by_cases hv : t ≤ v
  · have := flat_below h (v - t).toNat t h0 (by omega)
    rw [show t + ((v - t).toNat : Int) = v by omega] at this
    omega
  · have := flat_above h (t - v).toNat (by omega)
    rwa [show v + ((t - v).toNat : Int) = t by omega] at this
theorem flatB_eq {g : List (List Int)} (h : okG g = true) {lv : Int} (hl : 0 ≤ lv ∧ lv < 1000) : EvQ (fun k => flatB k g lv) (fun b => b = flatP g lv) := by
  unfold flatB
  rw [w64 (n := lv + 1) (by omega) (by omega)]
  refine EvQ.call (implMove g (lv + 1)) (EvQ.call (implMove g lv) (EvQ.ret ?_))
  rw [moveV_in h (by omega), moveV_in h (by omega)]
  rfl
theorem flat_ex {g : List (List Int)} (h : okG g = true) : ∃ v, IsFlat g v ∧ EvQ (fun k => impl_EarthFlat.f k g) (fun r => r = (v, true)) := by
  obtain ⟨r, h1, h2, h3, h4, h5⟩ := srch_spec (flatP g) (flatP_mono g) 1000 0 1000 (by omega) (by omega)
  refine ⟨r, ⟨by omega, by omega, fun t a b => h3 t a b, fun t a b => h4 t a b⟩, ?_⟩
  unfold impl_EarthFlat.f
  refine EvQ.call (implValid g) (EvQ.pos h ?_)
  exact EvQ.call (h5 (fun k lv => flatB k g lv) (fun t a b => flatB_eq h ⟨a, b⟩)) (EvQ.ret rfl)
theorem implFlat_no {g : List (List Int)} (h : ¬ okG g = true) : EvQ (fun k => impl_EarthFlat.f k g) (fun r => r = (0, false)) := by
  unfold impl_EarthFlat.f
  exact EvQ.call (implValid g) (EvQ.neg h (EvQ.ret rfl))
theorem specFlat_no {g : List (List Int)} (h : ¬ okG g = true) : EvQ (fun k => spec_EarthFlat.f k g) (fun r => r = (0, false)) := by
  unfold spec_EarthFlat.f
  exact EvQ.call (specValid g) (EvQ.neg h (EvQ.ret rfl))
theorem mv_small {g : List (List Int)} (h : okG g = true) {lv : Int} (hl : 0 ≤ lv ∧ lv ≤ 1000) : wrap64 (gs (pc lv) g + gs (pf lv) g) = mv g lv := by
  have := pc_nonneg h (lv := lv)
  have := pf_nonneg h (lv := lv)
  have := pc_small h hl
  have := pf_small h hl
  rw [w64 (by omega) (by omega)]; rfl
theorem specFlat {g : List (List Int)} (h : okG g = true) {v : Int} (hv : IsFlat g v) : EvQ (fun k => spec_EarthFlat.f k g) (fun r => r = (v, true)) := by
  obtain ⟨h0, h1, h2, h3⟩ := id hv
  unfold spec_EarthFlat.f
  refine EvQ.call (specValid g) (EvQ.pos h ?_)
  obtain ⟨n, hn⟩ : ∃ n : Nat, n = 1001 := ⟨_, rfl⟩
  refine EvQ.loop (σ := Int) (g := fun k i s => spec_EarthFlat.l0 k g s i) n (fun i s => s = (if (i : Int) ≤ v then (if i = 0 then 0 else (i : Int) - 1) else v)) ?_ ?_ 0 0 (by omega) (by simp; omega)
  · intro i s hi hs ih
    have hs1 : 0 ≤ s ∧ s ≤ 1000 := by rw [hs]; split <;> (try split) <;> omega
    refine EvQ.step (fun k => by simp only [spec_EarthFlat.l0]; rfl) ?_
    refine EvQ.pos (by omega) (EvQ.call (specBoth h (lv := (i : Int)) ⟨by omega, by omega⟩) (EvQ.call (specBoth h hs1) ?_))
    simp only []
    rw [w64 (n := (i : Int) + 1) (by omega) (by omega), mv_small h (by omega), mv_small h hs1]
    by_cases hiv : (i : Int) ≤ v
    · rw [if_pos hiv] at hs
      by_cases h00 : i = 0
      · subst h00
        rw [if_pos rfl] at hs
        subst hs
        refine EvQ.neg (by simp) (ih _ ?_)
        split <;> simp at * <;> omega
      · rw [if_neg h00] at hs
        have hp := h2 s (by omega) (by omega)
        unfold flatP at hp; rw [decide_eq_false_iff_not, show s + 1 = (i : Int) by omega] at hp
        refine EvQ.pos (by omega) (ih _ ?_)
        by_cases h4 : ((i + 1 : Nat) : Int) ≤ v
        · rw [if_pos h4, if_neg (by omega)]; push_cast; omega
        · rw [if_neg h4]; push_cast at h4; omega
    · rw [if_neg hiv] at hs
      subst hs
      have := flat_least hv (t := (i : Int)) (by omega) (by omega)
      refine EvQ.neg (by omega) (ih _ ?_)
      rw [if_neg (by push_cast; omega)]
  · intro s hs
    refine EvQ.step (fun k => by simp only [spec_EarthFlat.l0]; rfl) ?_
    refine EvQ.neg (by omega) (EvQ.ret ?_)
    rw [hs, if_neg (by omega)]
end Go.Proofs.Ytgngmbjcllfneaa.GridA
