import Derived.Test.YtfonigbkoligmaaPolyV
import Derived.Test.YtfonigbkoligmaaPolyC0
import Derived.Test.YtfonigbkoligmaaPx7
import Derived.Test.YtfonigbkoligmaaPx5
import Derived.Test.YtfonigbkoligmaaPx6
set_option linter.unusedVariables false
set_option linter.unusedSimpArgs false
namespace Go.Proofs.Ytfonigbkoligmaa.Cr
open Go.RowKit Go.Proofs.Ytfonigbkoligmaa.P Go.Proofs.YtfonigbkoligmaaW.PrintWords Go.Proofs.YtfonigbkoligmaaW.PrintLast Go.Proofs.YtfonigbkoligmaaW.PrintMore Go.Proofs.Ytfonigbkoligmaa.Ev
abbrev PtL := List S33
theorem specPoints {l : PtL} (hl : l.length ≤ 1000) : EvQ (fun k => spec_l31Points.f k l) (fun r => r = vdB l) := by
  unfold spec_l31Points.f
  refine EvQ.loop (σ := Unit) (g := fun k i _ => spec_l31Points.l0 k l i) l.length (fun i _ => ∀ j, j < i → okP (plX l j) (plY l j) = true) ?_ ?_ 0 () (by omega) (fun j h => by omega)
  · rintro i _ hi hI ih
    refine EvQ.step (fun k => by simp only [spec_l31Points.l0]; rfl) ?_
    refine EvQ.pos (by omega) (EvQ.pos (by omega) (EvQ.bindc (pointValid _ _) (EvQ.ite (fun h => ?_) (fun h => EvQ.ret ?_))))
    · rw [w64 (n := (i : Int) + 1) (by omega) (by omega)]
      refine ih () (fun j hj => ?_)
      rcases Nat.lt_or_ge j i with h1 | h1
      · exact hI j h1
      · obtain rfl : j = i := by omega
        exact h
    · symm
      refine Bool.eq_false_iff.2 (fun h2 => h ?_)
      exact (vdB_ok h2).2.2 i hi
  · rintro _ hI
    refine EvQ.step (fun k => by simp only [spec_l31Points.l0]; rfl) ?_
    refine EvQ.neg (by omega) (EvQ.bindc (in_eq _ _ _) (EvQ.ret ?_))
    rw [Bool.eq_iff_iff, decide_eq_true_eq, vdB_iff]
    constructor
    · intro h; exact ⟨by omega, by omega, fun i hi => by rw [inR_P]; exact hI i hi⟩
    · intro h; omega
theorem tmodN {i n : Nat} (hn : 0 < n) (h : n ≤ 1000) (hi : i < n) : Int.tmod (wrap64 ((i : Int) + 1)) (n : Int) = (((i + 1) % n : Nat) : Int) := by
  rw [w64 (by omega) (by omega), Int.tmod_eq_emod_of_nonneg (by omega)]; push_cast; rfl
theorem specPoly {l : PtL} (hl : l.length ≤ 1000) : EvQ (fun k => spec_PolyValid.f k l) (fun r => r = okB l) := by
  unfold spec_PolyValid.f
  refine EvQ.call (specPoints hl) (EvQ.ite (fun hv => ?_) (fun hv => EvQ.ret ?_))
  · obtain ⟨h3, h12, hp⟩ := vdB_ok hv
    have hok : okB l = true ↔ ∀ i k, i < k → k < l.length → pairOk (plX l) (plY l) l.length i k := by
      unfold okB
      rw [hv, Bool.true_and, smB_iff, simp_pairs h3 hp]
    have hbad : ∀ i k, i < k → k < l.length → ¬ pairOk (plX l) (plY l) l.length i k → (false = okB l) := fun i k h1 h2 h4 => by
      symm; exact Bool.eq_false_iff.2 (fun h => h4 (hok.1 h i k h1 h2))
    refine EvQ.loop (σ := Unit) (g := fun k i _ => spec_PolyValid.l0 k l (l.length : Int) i) l.length (fun i _ => ∀ a b, a < i → a < b → b < l.length → pairOk (plX l) (plY l) l.length a b) ?_ ?_ 0 () (by omega) (fun a b h => by omega)
    · rintro i _ hi hI ih
      refine EvQ.step (fun k => by simp only [spec_PolyValid.l0]; rfl) ?_
      refine EvQ.pos (by omega) ?_
      rw [w64 (n := (i : Int) + 1) (by omega) (by omega)]
      have ih2 := fun (h : ∀ b, i < b → b < l.length → pairOk (plX l) (plY l) l.length i b) => ih () (fun a b h1 h2 h4 => by
        rcases Nat.lt_or_ge a i with h5 | h5
        · exact hI a b h5 h2 h4
        · obtain rfl : a = i := by omega
          exact h b h2 h4)
      have e1 : ((i : Int) + 1) = ((i + 1 : Nat) : Int) := by omega
      rw [e1] at ih2 ⊢
      refine EvQ.loop (σ := Unit) (g := fun k j _ => spec_PolyValid.l1 k l (l.length : Int) (i : Int) j) l.length (fun j _ => i < j ∧ ∀ b, i < b → b < j → pairOk (plX l) (plY l) l.length i b) ?_ ?_ (i + 1) () (by omega) ⟨by omega, fun b h1 h2 => by omega⟩
      · rintro j _ hj ⟨hij, hJ⟩ ih3
        refine EvQ.step (fun k => by simp only [spec_PolyValid.l1]; rfl) ?_
        have mi := Nat.mod_lt (i + 1) (show 0 < l.length by omega)
        have mj := Nat.mod_lt (j + 1) (show 0 < l.length by omega)
        rw [tmodN (by omega) hl hi, tmodN (by omega) hl hj, w64 (n := (j : Int) + 1) (by omega) (by omega), w64 (n := (i : Int) + 1) (by omega) (by omega)]
        refine EvQ.pos (by omega) (EvQ.pos (by omega) (EvQ.pos (by omega) (EvQ.neg (by omega) (EvQ.pos (by omega) (EvQ.pos (by omega) (EvQ.pos (by omega) (EvQ.pos (by omega) (EvQ.pos (by omega) (EvQ.pos (by omega) ?_)))))))))
        have pi := hp i hi
        have pj := hp j hj
        have pi1 := hp _ mi
        have pj1 := hp _ mj
        have next : pairOk (plX l) (plY l) l.length i j → EvQ (fun k => spec_PolyValid.l1 k l (l.length : Int) (i : Int) ((j : Int) + 1)) (fun r => r = okB l) := fun h => ih3 () ⟨by omega, fun b h1 h2 => by
          rcases Nat.lt_or_ge b j with h5 | h5
          · exact hJ b h1 h5
          · obtain rfl : b = j := by omega
            exact h⟩
        refine EvQ.ite (fun hc => ?_) (fun hc => ?_)
        · have hk : j = i + 1 := by omega
          refine EvQ.ite (fun h => EvQ.ret (hbad i j hij hj (fun hq => ?_))) (fun h1 => ?_)
          · unfold pairOk at hq; rw [if_pos hk] at hq
            exact hq.1 (by simpa [plX, plY] using h)
          refine EvQ.ite (fun h => EvQ.ret (hbad i j hij hj (fun hq => ?_))) (fun h2 => ?_)
          · unfold pairOk at hq; rw [if_pos hk] at hq
            exact hq.2.1 (by simpa [plX, plY] using h)
          refine EvQ.bindc (l2On pi pi1 pj1) (EvQ.ite (fun h => EvQ.ret (hbad i j hij hj (fun hq => ?_))) (fun h4 => ?_))
          · unfold pairOk at hq; rw [if_pos hk] at hq
            exact hq.2.2.1 (by simpa [plX, plY] using h)
          refine EvQ.bindc (l2On pj pj1 pi) (EvQ.ite (fun h => EvQ.ret (hbad i j hij hj (fun hq => ?_))) (fun h5 => next ?_))
          · unfold pairOk at hq; rw [if_pos hk] at hq
            exact hq.2.2.2 (by simpa [plX, plY] using h)
          · unfold pairOk; rw [if_pos hk]
            exact ⟨by simpa [plX, plY] using h1, by simpa [plX, plY] using h2, by simpa [plX, plY] using h4, by simpa [plX, plY] using h5⟩
        · have hk : ¬ j = i + 1 := by omega
          refine EvQ.ite (fun hd => ?_) (fun hd => ?_)
          · have hk2 : (j + 1) % l.length = i := by omega
            refine EvQ.bindc (l2On pj pj1 pi1) (EvQ.ite (fun h => EvQ.ret (hbad i j hij hj (fun hq => ?_))) (fun h4 => ?_))
            · unfold pairOk at hq; rw [if_neg hk, if_pos hk2] at hq
              exact hq.1 (by simpa [plX, plY] using h)
            refine EvQ.bindc (l2On pi pi1 pj) (EvQ.ite (fun h => EvQ.ret (hbad i j hij hj (fun hq => ?_))) (fun h5 => next ?_))
            · unfold pairOk at hq; rw [if_neg hk, if_pos hk2] at hq
              exact hq.2 (by simpa [plX, plY] using h)
            · unfold pairOk; rw [if_neg hk, if_pos hk2]
              exact ⟨by simpa [plX, plY] using h4, by simpa [plX, plY] using h5⟩
          · have hk2 : ¬ (j + 1) % l.length = i := by omega
            refine EvQ.call (l31Meet pi pi1 pj pj1) (EvQ.ite (fun h => EvQ.ret (hbad i j hij hj (fun hq => ?_))) (fun h4 => next ?_))
            · unfold pairOk at hq; rw [if_neg hk, if_neg hk2] at hq
              exact hq (of_decide_eq_true h)
            · unfold pairOk; rw [if_neg hk, if_neg hk2]
              exact fun h => h4 (decide_eq_true h)
      · rintro _ ⟨hij, hJ⟩
        refine EvQ.step (fun k => by simp only [spec_PolyValid.l1]; rfl) ?_
        refine EvQ.neg (by omega) ?_
        rw [w64 (n := (i : Int) + 1) (by omega) (by omega), e1]
        exact ih2 hJ
    · rintro _ hI
      refine EvQ.step (fun k => by simp only [spec_PolyValid.l0]; rfl) ?_
      refine EvQ.neg (by omega) (EvQ.ret ?_)
      exact (hok.2 (fun a b h1 h2 => hI a b (by omega) h1 h2)).symm
  · unfold okB
    rw [Bool.eq_false_iff.2 hv, Bool.false_and]
theorem specArea {l : PtL} (hv : vdB l = true) : EvQ (fun k => spec_l31Area.f k l) (fun r => r = area l) := by
  obtain ⟨h3, h12, hp⟩ := vdB_ok hv
  unfold spec_l31Area.f
  refine EvQ.loop (σ := Int) (g := fun k i s => spec_l31Area.l0 k l s i) l.length (fun i s => s = arZ (plX l) (plY l) l.length i) ?_ ?_ 0 0 (by omega) rfl
  · rintro i _ hi rfl ih
    have mi := Nat.mod_lt (i + 1) (show 0 < l.length by omega)
    have b := (arN_eq h12 hp (i + 1) (by omega)).2
    have v1 := okP_iff.1 (hp i hi)
    have v2 := okP_iff.1 (hp _ mi)
    refine EvQ.step (fun k => by simp only [spec_l31Area.l0]; rfl) ?_
    rw [tmodN (by omega) (by omega) hi]
    refine EvQ.pos (by omega) (EvQ.pos (by omega) (EvQ.neg (by omega) (EvQ.pos (by omega) (EvQ.pos (by omega) ?_))))
    refine EvQ.bindc (l2Cross (x := plX l i) (y := plY l i) (a := plX l ((i + 1) % l.length)) (b := plY l ((i + 1) % l.length)) (by omega) (by omega) (by omega) (by omega)) ?_
    have hs : arZ (plX l) (plY l) l.length (i + 1) = arZ (plX l) (plY l) l.length i + cr (plX l i) (plY l i) (plX l ((i + 1) % l.length)) (plY l ((i + 1) % l.length)) := rfl
    rw [hs] at b
    rw [w64 (n := (i : Int) + 1) (by omega) (by omega), w64 (by omega) (by omega)]
    exact ih _ hs.symm
  · rintro _ rfl
    refine EvQ.step (fun k => by simp only [spec_l31Area.l0]; rfl) ?_
    exact EvQ.neg (by omega) (EvQ.ret rfl)
theorem specParcel {l : PtL} (hl : l.length ≤ 1000) : EvQ (fun k => spec_ParcelValid.f k l) (fun r => r = prB l) := by
  unfold spec_ParcelValid.f
  refine EvQ.call (specPoly hl) (EvQ.ite (fun h => EvQ.call (specArea (okB_vd h)) (EvQ.ret ?_)) (fun h => EvQ.ret ?_))
  · rw [Bool.eq_iff_iff, decide_eq_true_eq, prB_iff]
    exact ⟨fun h2 => ⟨h, h2⟩, fun h2 => h2.2⟩
  · symm; exact Bool.eq_false_iff.2 (fun h2 => h (prB_ok h2))
end Go.Proofs.Ytfonigbkoligmaa.Cr
