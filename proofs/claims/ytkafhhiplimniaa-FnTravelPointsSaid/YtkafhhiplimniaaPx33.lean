-- Written by a program of this session (wip/xprint.py over the print's own program), not by print.sh. Lean checks it.
import Derived.Test.YtkafhhiplimniaaPx0
namespace Go.Proofs.Ytkafhhiplimniaa.P
open Go.RowKit Go.Proofs.YtkafhhiplimniaaW.PrintWords Go.Proofs.YtkafhhiplimniaaW.PrintLast Go.Proofs.YtkafhhiplimniaaW.PrintMore
attribute [local go_sem] max2_int min2_int max_two min_two max_three min_three max_four min_four   -- for this text's walks alone
set_option linter.unusedVariables false
set_option linter.unusedSimpArgs false

-- EXTERNAL impl_PointStep: function 36
def stP (x y a b : Int) : Int × Int × Bool := if inR x y 10000 = true ∧ inR a b 10000 = true then (wrap64 (a - x), wrap64 (b - y), true) else (0, 0, false)
set_option maxHeartbeats 4000000 in
theorem step_calls (x y a b : Int) (w : World) :
    Calls Try.prog 36 #[.agg #[.int .i64 x, .int .i64 y], .agg #[.int .i64 a, .int .i64 b]] w fun e w' => e = .returned (.tuple #[.agg #[.int .i64 (stP x y a b).1, .int .i64 (stP x y a b).2.1], .bool (stP x y a b).2.2]) ∧ Below w.heap.size w w' := by
  have HM := Aside0.mk (Mv.new w x y a b)
  by_cases h1 : inR x y 10000 = true
  · by_cases h2 : inR a b 10000 = true
    · have e : stP x y a b = (wrap64 (a - x), wrap64 (b - y), true) := by unfold stP; rw [if_pos ⟨h1, h2⟩]
      rw [e]
      clear e
      have H1 := Aside0.mk h1
      have H2 := Aside0.mk h2
      clear h1 h2
      go_enter Try.func36, Try.ntmps36
      go_upto_region 3 with (first | (go_at_call 52; (with_reducible refine (PointValid_calls x y _).mono ?_); rintro e w1 ⟨rfl, hb⟩; rw [H1.out]; replace HM := Aside0.mk (HM.out.keep hb); clear hb H1; (try clear k1 k2 k3 k4 k5 k6 k7 k8); obtain ⟨k1, k2, k3, k4, k5, k6, k7, k8⟩ := HM.out.cells) | (go_at_call 52; (with_reducible refine (PointValid_calls a b _).mono ?_); rintro e w2 ⟨rfl, hb⟩; rw [H2.out]; replace HM := Aside0.mk (HM.out.keep hb); clear hb k1 k2 k3 k4 k5 k6 k7 k8; obtain ⟨k1, k2, k3, k4, k5, k6, k7, k8⟩ := HM.out.cells))
      (try simp only [Act.put, List.setIfInBounds_toArray, List.set_cons_zero, List.set_cons_succ])
      generalize hp : wrap64 (a - x) = p at *
      generalize hq : wrap64 (b - y) = q at *
      have HP := Aside0.mk hp
      have HQ := Aside0.mk hq
      clear hp hq
      go_region_held3 (fun w' => w'.cell? ⟨w.heap.size, 0, none⟩ = some (.int .i64 x) ∧ w'.cell? ⟨w.heap.size, 1, none⟩ = some (.int .i64 y) ∧ w'.cell? ⟨w.heap.size + 1, 0, none⟩ = some (.int .i64 a) ∧ w'.cell? ⟨w.heap.size + 1, 1, none⟩ = some (.int .i64 b))
        (first
          | exact HM.out.keepRes p q
          | go_keep
          | exact ⟨k1, k2, k3, k4⟩)
        (first
          | (go_at_call 59; (with_reducible refine (pairOf_calls a b _).mono ?_); rintro e w3 ⟨rfl, hb⟩; replace HM : Aside0 (Mv w w3 x y a b 0 0) := ⟨by first | exact HM.out.keep hb | exact (HM.out.keep (below_drew1 (Below.refl _ _))).keep hb⟩; clear hb k1 k2 k3 k4 k5 k6 k7 k8; obtain ⟨k1, k2, k3, k4, k5, k6, k7, k8⟩ := HM.out.cells)
          | (go_at_call 59; (with_reducible refine (pairOf_calls x y _).mono ?_); rintro e w3 ⟨rfl, hb⟩; replace HM : Aside0 (Mv w w3 x y a b 0 0) := ⟨by first | exact HM.out.keep hb | exact (HM.out.keep (below_drew1 (Below.refl _ _))).keep hb⟩; clear hb k1 k2 k3 k4 k5 k6 k7 k8; obtain ⟨k1, k2, k3, k4, k5, k6, k7, k8⟩ := HM.out.cells)
          | (go_at_call 60; (with_reducible refine (pairMinus_calls a b x y _).mono ?_); rw [HP.out, HQ.out]; rintro e w3 ⟨rfl, hb⟩; replace HM : Aside0 (Mv w w3 x y a b 0 0) := ⟨HM.out.keep hb⟩; clear hb k1 k2 k3 k4 k5 k6 k7 k8; obtain ⟨k1, k2, k3, k4, k5, k6, k7, k8⟩ := HM.out.cells)
          | (go_at_call 46; (with_reducible refine (pairPoint_calls p q _).mono ?_); rintro e w3 ⟨rfl, hb⟩; replace HM : Aside0 (Mv w w3 x y a b 0 0) := ⟨HM.out.keep hb⟩; clear hb k1 k2 k3 k4 k5 k6 k7 k8; obtain ⟨k1, k2, k3, k4, k5, k6, k7, k8⟩ := HM.out.cells))
      all_goals
        go_wp2_with fail
        have HM3 := HM.out.put p q
        exact bodyPost_ret (results_ct rfl _ _ (w.heap.size + 1 + 1) 30 #[.int .i64 p, .int .i64 q] (0, 0) _ rfl HM3.2.2.2 Try.underlying30 rfl (by kernel_rfl)) rfl ⟨by rw [HP.out, HQ.out]; rfl, HM3.1⟩
    · have e : stP x y a b = (0, 0, false) := by unfold stP; rw [if_neg (fun hh => h2 hh.2)]
      rw [e]
      have h2 : inR a b 10000 = false := by simpa using h2
      go_enter Try.func36, Try.ntmps36
      go_wp2_with (first | (go_at_call 52; (with_reducible refine (PointValid_calls x y _).mono ?_); rintro e w1 ⟨rfl, hb⟩; rw [h1]; have HM1 := Aside0.mk (HM.out.keep hb); clear hb h1; obtain ⟨k1, k2, k3, k4, k5, k6, k7, k8⟩ := HM1.out.cells) | (go_at_call 52; (with_reducible refine (PointValid_calls a b _).mono ?_); rintro e w2 ⟨rfl, hb⟩; rw [h2]; have HM2 := Aside0.mk (HM1.out.keep hb); clear hb k1 k2 k3 k4 k5 k6 k7 k8; obtain ⟨k1, k2, k3, k4, k5, k6, k7, k8⟩ := HM2.out.cells))
      have HM3 := HM2.out.put 0 0
      exact bodyPost_ret (results_ct rfl _ _ (w.heap.size + 1 + 1) 30 #[.int .i64 0, .int .i64 0] (0, 0) _ rfl HM3.2.2.2 Try.underlying30 rfl (by kernel_rfl)) rfl ⟨rfl, HM3.1⟩
  · have e : stP x y a b = (0, 0, false) := by unfold stP; rw [if_neg (fun hh => h1 hh.1)]
    rw [e]
    have h1 : inR x y 10000 = false := by simpa using h1
    go_enter Try.func36, Try.ntmps36
    go_wp2_with (go_at_call 52; (with_reducible refine (PointValid_calls x y _).mono ?_); rintro e w1 ⟨rfl, hb⟩; rw [h1]; have HM1 := Aside0.mk (HM.out.keep hb); clear hb; obtain ⟨k1, k2, k3, k4, k5, k6, k7, k8⟩ := HM1.out.cells)
    have HM3 := HM1.out.put 0 0
    exact bodyPost_ret (results_ct rfl _ _ (w.heap.size + 1 + 1) 30 #[.int .i64 0, .int .i64 0] (0, 0) _ rfl HM3.2.2.2 Try.underlying30 rfl (by kernel_rfl)) rfl ⟨rfl, HM3.1⟩
def impl_PointStep.f (a0_0 : Int) (a0_1 : Int) (a1_0 : Int) (a1_1 : Int) : Option (Int × Int × Bool) := some (stP a0_0 a0_1 a1_0 a1_1)
theorem impl_PointStep.calls (a0_0 : Int) (a0_1 : Int) (a1_0 : Int) (a1_1 : Int) (r1 : Int) (r2 : Int) (r3 : Bool) (w : World) (h : impl_PointStep.f a0_0 a0_1 a1_0 a1_1 = some (r1, r2, r3)) :
    Calls Try.prog 36 #[.agg #[.int .i64 a0_0, .int .i64 a0_1], .agg #[.int .i64 a1_0, .int .i64 a1_1]] w fun e w' => e = .returned (.tuple #[.agg #[.int .i64 r1, .int .i64 r2], .bool r3]) ∧ Below w.heap.size w w' := by
  have h := Option.some.inj h
  have h0 := step_calls a0_0 a0_1 a1_0 a1_1 w
  rw [h] at h0
  exact h0

end Go.Proofs.Ytkafhhiplimniaa.P
