/- Work has no direction: for all codes. No condition is added. -/
import Derived.Test.YtekgcfjoimdecaaPx8
import Derived.Test.YtekgcfjoimdecaaHaulB
import Derived.Test.YtekgcfjoimdecaaDrawStations
set_option linter.unusedVariables false
namespace Go.Proofs.Ytekgcfjoimdecaa.Pure
open Go.RowKit Go.Proofs.Ytekgcfjoimdecaa.P Go.Proofs.YtekgcfjoimdecaaW.PrintWords Go.Proofs.YtekgcfjoimdecaaW.PrintMore Go.Proofs.Ytekgcfjoimdecaa.Ev Go.Proofs.Ytekgcfjoimdecaa.HaulA Go.Proofs.Ytekgcfjoimdecaa.Pick
theorem ab_neg (x : Int) : ab (-x) = ab x := by unfold ab; split <;> split <;> omega
theorem abs_snoc (l : List Int) (x : Int) : abs (l ++ [x]) = abs l + ab x := by
  unfold abs; rw [List.map_append, List.sum_append]; simp
theorem abs_cons (x : Int) (l : List Int) : abs (x :: l) = ab x + abs l := by unfold abs; simp
theorem abs_nil : abs [] = 0 := rfl
theorem abs_pos (l : List Int) : 0 ≤ abs l := by
  induction l with
  | nil => simp [abs]
  | cons a l ih => have := ab_nonneg a; rw [abs_cons]; omega
/-- The sums, the first one among them. -/
def full (s : Int) (l : List Int) : Int := ab s + abs (pre s l)
theorem full_rev (l : List Int) : ∀ s, full s l.reverse = full (-(s + l.sum)) l := by
  induction l with
  | nil => intro s; simp [full, pre, ab_neg]
  | cons x l ih =>
    intro s
    have h1 : full s (l.reverse ++ [x]) = full s l.reverse + ab (s + l.reverse.sum + x) := by
      unfold full; rw [pre_snoc, abs_snoc]; omega
    rw [List.reverse_cons, h1, ih s]
    have hs : l.reverse.sum = l.sum := by simp
    rw [hs]
    have h2 : full (-(s + (x :: l).sum)) (x :: l) = ab (-(s + l.sum + x)) + full (-(s + l.sum)) l := by
      unfold full
      simp only [pre, abs_cons, List.sum_cons]
      rw [show -(s + (x + l.sum)) + x = -(s + l.sum) by omega, show -(s + (x + l.sum)) = -(s + l.sum + x) by omega]
    rw [h2, ab_neg]
    omega
theorem work_rev {l : List Int} (h : l.sum = 0) : abs (pre 0 l.reverse) = abs (pre 0 l) := by
  have := full_rev l 0
  unfold full at this
  rw [h] at this
  simp only [Int.zero_add, Int.neg_zero] at this
  omega
theorem pre_neg (l : List Int) : ∀ s, pre (-s) (l.map (fun x => -x)) = (pre s l).map (fun x => -x) := by
  induction l with
  | nil => intro s; rfl
  | cons x l ih =>
    intro s
    simp only [pre, List.map_cons]
    rw [show -s + -x = -(s + x) by omega, ih]
theorem work_neg (l : List Int) : abs (pre 0 (l.map (fun x => -x))) = abs (pre 0 l) := by
  have := pre_neg l 0
  rw [Int.neg_zero] at this
  rw [this]
  unfold abs
  rw [List.map_map]
  congr 1
  apply List.map_congr_left
  intro x _; exact ab_neg x
theorem ab_add (x y : Int) : ab x ≤ ab y + ab (y + x) := by unfold ab; split <;> split <;> split <;> omega
theorem earth_le (l : List Int) : ∀ s, abs l ≤ ab s + 2 * abs (pre s l) := by
  induction l with
  | nil => intro s; have := ab_nonneg s; simp [abs, pre]; omega
  | cons x l ih =>
    intro s
    have h1 := ab_add x s
    have h2 := ih (s + x)
    simp only [pre, abs_cons]
    omega
theorem earth_zero (l : List Int) (h : abs l = 0) : abs (pre 0 l) = 0 := by
  induction l with
  | nil => rfl
  | cons x l ih =>
    rw [abs_cons] at h
    have h1 := ab_nonneg x
    have h2 := abs_pos l
    have hx : x = 0 := by have : ab x = 0 := by omega
                          unfold ab at this; split at this <;> omega
    subst hx
    have := ih (by omega)
    simp only [pre, abs_cons, Int.zero_add, this]
    rfl
theorem sum_map_neg (l : List Int) : (l.map (fun x => -x)).sum = -l.sum := by
  induction l with
  | nil => rfl
  | cons x l ih => simp only [List.map_cons, List.sum_cons, ih]; omega
theorem bal_rev (l : List Int) : bal l.reverse = bal l := by
  unfold bal okS
  rw [List.length_reverse, List.all_reverse, List.sum_reverse]
theorem bal_neg (l : List Int) : bal (l.map (fun x => -x)) = bal l := by
  unfold bal okS
  rw [List.length_map, sum_map_neg, List.all_map]
  have : (rng ∘ fun x => -x) = rng := by
    funext x; unfold rng; simp only [Function.comp]; rw [Bool.eq_iff_iff]; simp; omega
  rw [this]
  congr 1
  rw [Bool.eq_iff_iff]; simp
theorem mx_ab {x : Int} (h : -1000 ≤ x ∧ x ≤ 1000) : mx x (wrap64 (-x)) = ab x := by
  rw [w64 (by omega) (by omega)]; unfold mx ab; split <;> split <;> omega
theorem FnHaulWork : laws_FnHaulWork.Pure := by
  intro l _ hl1 hwf
  refine EvQ.rounds (g := fun k => laws_FnHaulWork.f k l) ?_
  unfold laws_FnHaulWork.f
  refine EvQ.ite (fun _ => EvQ.ret rfl) (fun _ => ?_)
  unfold spec_DrawHaulWork.f
  refine drawn hwf (fun s hs => ?_)
  have hl : Len s := by unfold Len; omega
  refine EvQ.call (implWork hl) (EvQ.call (specWork hl) (EvQ.pos rfl ?_))
  refine EvQ.step (fun k => by simp only [laws_FnHaulWork.j0]; rfl) ?_
  by_cases hb : bal s = true
  · have ho := bal_ok hb
    obtain ⟨h1, h12, hr⟩ := okS_of ho
    have hsum := bal_sum hb
    have hw : work s = abs (pre 0 s) := by simp [work, hb]
    have hwb := workAbs_bound ho (pre 0 s).length
    rw [List.take_length] at hwb
    refine EvQ.neg (by rw [hw]; simp; omega) ?_
    refine EvQ.loop (σ := List Int × List Int × Int) (g := fun k i t => laws_FnHaulWork.l0 k s (work s) t.1 t.2.1 t.2.2 i) s.length
      (fun i t => t.1 = s.reverse.take i ∧ t.2.1 = (s.map (fun x => -x)).take i ∧ t.2.2 = abs (s.take i)) ?_ ?_ 0 ([], [], 0) (by omega) (by simp [abs])
    · rintro i ⟨a, b, c⟩ hi ⟨ha, hb2, hc⟩ ih
      simp only [] at ha hb2 hc ⊢
      have hal : a.length ≤ 12 := by rw [ha, List.length_take, List.length_reverse]; omega
      have hbl : b.length ≤ 12 := by rw [hb2, List.length_take, List.length_map]; omega
      have hm := mem_bound ho hi
      have hcb : 0 ≤ c ∧ c ≤ 12000 := by
        have := abs_bound (l := s.take i) (b := 1000) (fun x hx => hr x (List.mem_of_mem_take hx))
        have h3 : (s.take i).length ≤ 12 := by rw [List.length_take]; omega
        omega
      refine EvQ.step (fun k => by simp only [laws_FnHaulWork.l0]; rfl) ?_
      have e1 : wrap64 ((s.length : Int) - 1) = (s.length : Int) - 1 := w64 (by omega) (by omega)
      have e2 : wrap64 ((s.length : Int) - 1 - (i : Int)) = ((s.length - 1 - i : Nat) : Int) := by rw [w64 (by omega) (by omega)]; omega
      rw [e1, e2]
      refine EvQ.pos (by omega) (EvQ.pos (by omega) (EvQ.pos (by omega) (EvQ.pos (by omega) (EvQ.pos (by omega) (EvQ.pos (by omega) ?_)))))
      rw [rd_get hi, rd_get (i := s.length - 1 - i) (by omega), mx_ab hm]
      have hab : 0 ≤ ab s[i] ∧ ab s[i] ≤ 1000 := by unfold ab; split <;> omega
      rw [w64 (n := -s[i]) (by omega) (by omega), w64 (n := c + ab s[i]) (by omega) (by omega), w64 (n := (i : Int) + 1) (by omega) (by omega)]
      refine ih (_, _, _) ⟨?_, ?_, ?_⟩
      · simp only []
        rw [List.take_succ_eq_append_getElem (by rw [List.length_reverse]; exact hi), List.getElem_reverse, ha]
      · simp only []
        rw [List.take_succ_eq_append_getElem (by rw [List.length_map]; exact hi), List.getElem_map, hb2]
      · simp only []
        rw [abs_take_succ hi, hc]
    · rintro ⟨a, b, c⟩ ⟨ha, hb2, hc⟩
      simp only [] at ha hb2 hc ⊢
      have ha : a = s.reverse := by rw [ha, ← List.length_reverse, List.take_length]
      have hb2 : b = s.map (fun x => -x) := by rw [hb2, ← List.length_map (f := fun x : Int => -x), List.take_length]
      have hc : c = abs s := by rw [hc, List.take_length]
      refine EvQ.step (fun k => by simp only [laws_FnHaulWork.l0]; rfl) ?_
      refine EvQ.neg (by omega) ?_
      refine EvQ.call (implWork (l := a) (by unfold Len; rw [ha, List.length_reverse]; omega)) ?_
      have w1 : work a = work s := by rw [ha]; unfold work; rw [bal_rev, work_rev hsum]
      have w2 : work b = work s := by rw [hb2]; unfold work; rw [bal_neg, work_neg]
      refine EvQ.pos w1 (EvQ.call (implWork (l := b) (by unfold Len; rw [hb2, List.length_map]; omega)) (EvQ.pos w2 ?_))
      have h4 := earth_le s 0
      have h5 := abs_pos s
      have h6 : ab 0 = 0 := rfl
      refine EvQ.pos ?_ (EvQ.ret ?_)
      · rw [hw, hc, beq_iff_eq, Bool.eq_iff_iff]
        simp only [beq_iff_eq]
        constructor
        · intro h; omega
        · intro h; exact earth_zero s h
      · rw [w64 (by omega) (by omega), decide_eq_true_eq]; omega
  · have hw : work s = -1 := by simp [work, hb]
    rw [hw]
    exact EvQ.pos (by simp) (EvQ.ret (by simp))
end Go.Proofs.Ytekgcfjoimdecaa.Pure
