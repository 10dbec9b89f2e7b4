/- Chapter 42, plain: cut, fill, moves and levels of the program and of the reference. No program in sight. -/
import Derived.Test.YtgngmbjcllfneaaEarthA
import Derived.Test.YtgngmbjcllfneaaPx3
import Derived.Test.YtgngmbjcllfneaaPx8
import Derived.Test.YtgngmbjcllfneaaPx10
import Derived.Test.YtgngmbjcllfneaaPx12
import Derived.Test.YtgngmbjcllfneaaPx14
import Derived.Test.YtgngmbjcllfneaaPx15
import Derived.Test.YtgngmbjcllfneaaPx6
set_option linter.unusedVariables false
set_option linter.unusedSimpArgs false
namespace Go.Proofs.Ytgngmbjcllfneaa.GridA
open Go.RowKit Go.Proofs.Ytgngmbjcllfneaa.P Go.Proofs.YtgngmbjcllfneaaW.PrintWords Go.Proofs.YtgngmbjcllfneaaW.PrintLast Go.Proofs.YtgngmbjcllfneaaW.PrintMore Go.Proofs.Ytgngmbjcllfneaa.Ev Go.Proofs.Ytgngmbjcllfneaa.Ints
/-- A grid and a level in range. -/
def okE (g : List (List Int)) (lv : Int) : Bool := okG g && decide (0 ≤ lv ∧ lv ≤ 1000)
theorem okE_of {g : List (List Int)} {lv : Int} (h : okE g lv = true) : okG g = true ∧ (0 ≤ lv ∧ lv ≤ 1000) := by
  unfold okE at h; simpa only [Bool.and_eq_true, decide_eq_true_eq] using h
def cutV (g : List (List Int)) (lv : Int) : Int := if okE g lv then gs (pc lv) g else -1
def fillV (g : List (List Int)) (lv : Int) : Int := if okE g lv then gs (pf lv) g else -1
def moveV (g : List (List Int)) (lv : Int) : Int := if okE g lv then gs (pc lv) g + gs (pf lv) g else -1
theorem pc_nonneg {g : List (List Int)} (h : okG g = true) {lv : Int} : 0 ≤ gs (pc lv) g := okG_nonneg h (fun x _ => by unfold pc mx; split <;> omega)
theorem pf_nonneg {g : List (List Int)} (h : okG g = true) {lv : Int} : 0 ≤ gs (pf lv) g := okG_nonneg h (fun x _ => by unfold pf mx; split <;> omega)
theorem pc_small {g : List (List Int)} (h : okG g = true) {lv : Int} (hl : 0 ≤ lv ∧ lv ≤ 1000) : gs (pc lv) g ≤ 36000 := (okG_small' h (fun x hx => by have := pc_range hl hx; omega)).2
theorem pf_small {g : List (List Int)} (h : okG g = true) {lv : Int} (hl : 0 ≤ lv ∧ lv ≤ 1000) : gs (pf lv) g ≤ 36000 := (okG_small' h (fun x hx => by have := pf_range hl hx; omega)).2
theorem specCut (g : List (List Int)) (lv : Int) : EvQ (fun k => spec_EarthCut.f k g lv) (fun r => r = cutV g lv) := by
  unfold spec_EarthCut.f cutV
  refine EvQ.call (specValid g) (EvQ.ite (fun h => ?_) (fun h => EvQ.ret (by simp [okE, h])))
  simp only [in_eq, bind_some_]
  refine EvQ.ite (fun hl => ?_) (fun hl => EvQ.ret (by simp only [okE, hl]; simp))
  have hl2 : 0 ≤ lv ∧ lv ≤ 1000 := by simpa using hl
  refine EvQ.call (specBoth h hl2) (EvQ.ret ?_)
  simp only [okE, h, decide_eq_true hl2, Bool.and_self, if_true]
theorem implEV (g : List (List Int)) (lv : Int) : EvQ (fun k => impl_earthValid.f k g lv) (fun r => r = okE g lv) := by
  unfold impl_earthValid.f okE
  refine EvQ.call (implValid g) (EvQ.ite (fun h => ?_) (fun h => EvQ.ret (by simp [h])))
  refine EvQ.ite (fun h0 => EvQ.ret ?_) (fun h0 => EvQ.ret ?_)
  · rw [h, Bool.true_and, Bool.eq_iff_iff]; simp; omega
  · rw [h, Bool.true_and, eq_comm, decide_eq_false_iff_not]; omega
theorem implCut (g : List (List Int)) (lv : Int) : EvQ (fun k => impl_EarthCut.f k g lv) (fun r => r = cutV g lv) := by
  unfold impl_EarthCut.f cutV
  refine EvQ.call (implEV g lv) (EvQ.ite (fun h => ?_) (fun h => EvQ.ret (by simp [h])))
  obtain ⟨h1, h2⟩ := okE_of h
  exact EvQ.bindc (implBoth h1 h2) (EvQ.ret (by simp [h]))
theorem implFill (g : List (List Int)) (lv : Int) : EvQ (fun k => impl_EarthFill.f k g lv) (fun r => r = fillV g lv) := by
  unfold impl_EarthFill.f fillV
  refine EvQ.call (implEV g lv) (EvQ.ite (fun h => ?_) (fun h => EvQ.ret (by simp [h])))
  obtain ⟨h1, h2⟩ := okE_of h
  exact EvQ.bindc (implBoth h1 h2) (EvQ.ret (by simp [h]))
theorem implMove (g : List (List Int)) (lv : Int) : EvQ (fun k => impl_EarthMove.f k g lv) (fun r => r = moveV g lv) := by
  unfold impl_EarthMove.f moveV
  refine EvQ.call (implEV g lv) (EvQ.ite (fun h => ?_) (fun h => EvQ.ret (by simp [h])))
  obtain ⟨h1, h2⟩ := okE_of h
  have := pc_nonneg h1 (lv := lv)
  have := pf_nonneg h1 (lv := lv)
  have := pc_small h1 h2
  have := pf_small h1 h2
  refine EvQ.bindc (implBoth h1 h2) (EvQ.ret ?_)
  simp only [h, if_true]
  exact w64 (by omega) (by omega)
theorem cutV_neg (g : List (List Int)) (lv : Int) : cutV g lv < 0 ↔ ¬ okE g lv = true := by
  unfold cutV
  by_cases h : okE g lv = true
  · rw [if_pos h]; have := pc_nonneg (okE_of h).1 (lv := lv); constructor
    · intro; omega
    · intro h2; exact absurd h h2
  · rw [if_neg h]; simp [h]
theorem specFill (g : List (List Int)) (lv : Int) : EvQ (fun k => spec_EarthFill.f k g lv) (fun r => r = fillV g lv) := by
  unfold spec_EarthFill.f fillV
  refine EvQ.call (specCut g lv) (EvQ.ite (fun h => EvQ.ret ?_) (fun h => ?_))
  · rw [cutV_neg] at h; rw [if_neg h]
  · have h : okE g lv = true := by rw [cutV_neg] at h; simpa using h
    obtain ⟨h1, h2⟩ := okE_of h
    exact EvQ.call (specBoth h1 h2) (EvQ.ret (by simp [h]))
theorem specMove (g : List (List Int)) (lv : Int) : EvQ (fun k => spec_EarthMove.f k g lv) (fun r => r = moveV g lv) := by
  unfold spec_EarthMove.f moveV
  refine EvQ.call (specCut g lv) (EvQ.ite (fun h => EvQ.ret ?_) (fun h => ?_))
  · rw [cutV_neg] at h; rw [if_neg h]
  · have h : okE g lv = true := by rw [cutV_neg] at h; simpa using h
    obtain ⟨h1, h2⟩ := okE_of h
    have := pc_nonneg h1 (lv := lv)
    have := pf_nonneg h1 (lv := lv)
    have := pc_small h1 h2
    have := pf_small h1 h2
    refine EvQ.call (specBoth h1 h2) (EvQ.ret ?_)
    simp only [h, if_true]
    exact w64 (by omega) (by omega)
/-- What sort.Search finds, where the question turns once at most. -/
theorem srch_spec (p : Int → Bool) (hm : ∀ a b, a ≤ b → p a = true → p b = true) : ∀ (d : Nat) (i j : Int), i ≤ j → j - i ≤ d → ∃ r, i ≤ r ∧ r ≤ j ∧ (∀ t, i ≤ t → t < r → p t = false) ∧ (∀ t, r ≤ t → t < j → p t = true) ∧
    ∀ B : Nat → Int → Option Bool, (∀ t, i ≤ t → t < j → EvQ (fun k => B k t) (fun b => b = p t)) → EvQ (fun k => srchO (B k) d i j) (fun x => x = r) := by
  intro d
  induction d with
  | zero =>
    intro i j h1 h2
    have : i = j := by omega
    subst this
    refine ⟨i, by omega, by omega, fun t a b => by omega, fun t a b => by omega, fun B _ => ?_⟩
    simp only [srchO]
    exact EvQ.neg (by omega) (EvQ.ret rfl)
  | succ d ih =>
    intro i j h1 h2
    by_cases hlt : i < j
    · cases hp : p ((i + j) / 2) with
      | true =>
        obtain ⟨r, g1, g2, g3, g4, g5⟩ := ih i ((i + j) / 2) (by omega) (by push_cast at h2; omega)
        refine ⟨r, g1, by omega, g3, fun t a b => ?_, fun B hB => ?_⟩
        · by_cases ht : t < (i + j) / 2
          · exact g4 t a ht
          · exact hm _ _ (by omega) hp
        · simp only [srchO]
          refine EvQ.pos hlt (EvQ.call (by have := hB ((i + j) / 2) (by omega) (by omega); rw [hp] at this; exact this) (EvQ.pos rfl ?_))
          exact g5 B (fun t a b => hB t a (by omega))
      | false =>
        obtain ⟨r, g1, g2, g3, g4, g5⟩ := ih ((i + j) / 2 + 1) j (by omega) (by push_cast at h2; omega)
        refine ⟨r, by omega, g2, fun t a b => ?_, g4, fun B hB => ?_⟩
        · by_cases ht : (i + j) / 2 + 1 ≤ t
          · exact g3 t ht b
          · cases hq : p t with
            | false => rfl
            | true => have := hm t ((i + j) / 2) (by omega) hq; rw [hp] at this; exact Bool.noConfusion this
        · simp only [srchO]
          refine EvQ.pos hlt (EvQ.call (by have := hB ((i + j) / 2) (by omega) (by omega); rw [hp] at this; exact this) (EvQ.neg (by simp) ?_))
          exact g5 B (fun t a b => hB t (by omega) b)
    · have : i = j := by omega
      subst this
      refine ⟨i, by omega, by omega, fun t a b => by omega, fun t a b => by omega, fun B _ => ?_⟩
      simp only [srchO]
      exact EvQ.neg (by omega) (EvQ.ret rfl)
/-- Cut less fill, at a level. -/
def dv (g : List (List Int)) (lv : Int) : Int := gs (fun x => x - lv) g
theorem dv_eq (g : List (List Int)) (lv : Int) : gs (pc lv) g - gs (pf lv) g = dv g lv := by
  rw [← gs_sub]
  exact gs_congr (fun _ _ x _ => by unfold pc pf mx; split <;> split <;> omega)
theorem dv_mono (g : List (List Int)) {a b : Int} (h : a ≤ b) : dv g b ≤ dv g a := gs_le (fun _ _ x _ => by omega)
def lessP (g : List (List Int)) (lv : Int) : Bool := decide (dv g lv < 0)
theorem lessP_mono (g : List (List Int)) (a b : Int) (h : a ≤ b) (hp : lessP g a = true) : lessP g b = true := by
  unfold lessP at *
  rw [decide_eq_true_eq] at *
  have := dv_mono g h; omega
theorem lessE_eq {g : List (List Int)} (h : okG g = true) {lv : Int} (hl : 0 ≤ lv ∧ lv ≤ 1000) : lessE g lv = lessP g lv := by
  have e := implBoth h hl
  unfold impl_earthOf.f at e
  have e2 := Option.some.inj e
  unfold lessE lessP
  rw [e2]
  have := dv_eq g lv
  rw [Bool.eq_iff_iff]
  simp only [decide_eq_true_eq]
  omega
/-- The greatest level at which there is as much cut as fill. -/
def IsLevel (g : List (List Int)) (v : Int) : Prop := 0 ≤ v ∧ v ≤ 1000 ∧ (∀ t, 0 ≤ t → t ≤ v → lessP g t = false) ∧ (∀ t, v < t → t ≤ 1000 → lessP g t = true)
theorem level_ex {g : List (List Int)} (h : okG g = true) : ∃ v, IsLevel g v ∧ EvQ (fun k => impl_EarthLevel.f k g) (fun r => r = (v, true)) := by
  obtain ⟨r, h1, h2, h3, h4, h5⟩ := srch_spec (lessP g) (lessP_mono g) 1001 0 1001 (by omega) (by omega)
  have hr0 : r ≠ 0 := by
    intro e
    have := h4 0 (by omega) (by omega)
    unfold lessP at this
    rw [decide_eq_true_eq] at this
    have : 0 ≤ dv g 0 := okG_nonneg h (fun x hx => by omega)
    omega
  refine ⟨r - 1, ⟨by omega, by omega, fun t a b => h3 t a (by omega), fun t a b => h4 t (by omega) (by omega)⟩, ?_⟩
  unfold impl_EarthLevel.f
  refine EvQ.call (implValid g) (EvQ.pos h ?_)
  refine EvQ.call (h5 (fun _ lv => some (lessE g lv)) (fun t a b => EvQ.ret (lessE_eq h ⟨a, by omega⟩))) (EvQ.ret ?_)
  rw [w64 (by omega) (by omega)]
theorem implLevel_no {g : List (List Int)} (h : ¬ okG g = true) : EvQ (fun k => impl_EarthLevel.f k g) (fun r => r = (0, false)) := by
  unfold impl_EarthLevel.f
  exact EvQ.call (implValid g) (EvQ.neg h (EvQ.ret rfl))
theorem specLevel_no {g : List (List Int)} (h : ¬ okG g = true) : EvQ (fun k => spec_EarthLevel.f k g) (fun r => r = (0, false)) := by
  unfold spec_EarthLevel.f
  exact EvQ.call (specValid g) (EvQ.neg h (EvQ.ret rfl))
theorem specLevel {g : List (List Int)} (h : okG g = true) {v : Int} (hv : IsLevel g v) : EvQ (fun k => spec_EarthLevel.f k g) (fun r => r = (v, true)) := by
  obtain ⟨h0, h1, h2, h3⟩ := hv
  unfold spec_EarthLevel.f
  refine EvQ.call (specValid g) (EvQ.pos h ?_)
  obtain ⟨n, hn⟩ : ∃ n : Nat, n = 1001 := ⟨_, rfl⟩
  refine EvQ.loop (σ := Int) (g := fun k i s => spec_EarthLevel.l0 k g s i) n (fun i s => s = (if (i : Int) ≤ v then (if i = 0 then 0 else (i : Int) - 1) else v)) ?_ ?_ 0 0 (by omega) (by simp; omega)
  · intro i s hi hs ih
    refine EvQ.step (fun k => by simp only [spec_EarthLevel.l0]; rfl) ?_
    refine EvQ.pos (by omega) (EvQ.call (specBoth h (lv := (i : Int)) ⟨by omega, by omega⟩) ?_)
    have e := dv_eq g (i : Int)
    rw [w64 (n := (i : Int) + 1) (by omega) (by omega)]
    by_cases hiv : (i : Int) ≤ v
    · have hp := h2 (i : Int) (by omega) hiv
      unfold lessP at hp; rw [decide_eq_false_iff_not] at hp
      refine EvQ.pos (by simp only []; omega) (ih _ ?_)
      by_cases h4 : ((i + 1 : Nat) : Int) ≤ v
      · rw [if_pos h4, if_neg (by omega)]; push_cast; omega
      · rw [if_neg h4]; push_cast at h4; omega
    · have hp := h3 (i : Int) (by omega) (by omega)
      unfold lessP at hp; rw [decide_eq_true_eq] at hp
      refine EvQ.neg (by simp only []; omega) (ih _ ?_)
      rw [if_neg (by push_cast; omega), hs, if_neg hiv]
  · intro s hs
    refine EvQ.step (fun k => by simp only [spec_EarthLevel.l0]; rfl) ?_
    refine EvQ.neg (by omega) (EvQ.ret ?_)
    rw [hs, if_neg (by omega)]
end Go.Proofs.Ytgngmbjcllfneaa.GridA
