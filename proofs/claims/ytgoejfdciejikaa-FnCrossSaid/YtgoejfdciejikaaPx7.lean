-- Written by a program of this session (wip/xprint.py over the print's own program), not by print.sh. Lean checks it.
import Derived.Test.YtgoejfdciejikaaPx0
import Derived.Test.YtgoejfdciejikaaPx6
namespace Go.Proofs.Ytgoejfdciejikaa.P
open Go.RowKit Go.Proofs.YtgoejfdciejikaaW.PrintWords Go.Proofs.YtgoejfdciejikaaW.PrintLast Go.Proofs.YtgoejfdciejikaaW.PrintMore
attribute [local go_sem] max2_int min2_int max_two min_two max_three min_three max_four min_four   -- for this text's walks alone
set_option linter.unusedVariables false
set_option linter.unusedSimpArgs false

-- EXTERNAL impl_PointSide: function 26
/-- The sign of a number. -/
def sgI (x : Int) : Int := if x < 0 then -1 else if x > 0 then 1 else 0
theorem sgI_f (x : Int) : impl_signInt.f x = some (sgI x) := by unfold impl_signInt.f sgI; split <;> (try split) <;> rfl
/-- The cross product of two pairs, with Go's wraps. -/
def crI (x y a b : Int) : Int := wrap64 (wrap64 (x * b) - wrap64 (a * y))
def sdI (ax ay bx by_ cx cy : Int) : Int := sgI (crI (wrap64 (bx - ax)) (wrap64 (by_ - ay)) (wrap64 (cx - ax)) (wrap64 (cy - ay)))
def sdP (ax ay bx by_ cx cy : Int) : Int × Bool := if inR ax ay 10000 = true ∧ inR bx by_ 10000 = true ∧ inR cx cy 10000 = true then (sdI ax ay bx by_ cx cy, true) else (0, false)
set_option maxHeartbeats 4000000 in
theorem side_yes (ax ay bx by_ cx cy : Int) (h1 : inR ax ay 10000 = true) (h2 : inR bx by_ 10000 = true) (h3 : inR cx cy 10000 = true) (w : World) :
    Calls Try.prog 26 #[.agg #[.int .i64 ax, .int .i64 ay], .agg #[.int .i64 bx, .int .i64 by_], .agg #[.int .i64 cx, .int .i64 cy]] w fun e w' => e = .returned (.tuple #[.int .i64 (sdI ax ay bx by_ cx cy), .bool true]) ∧ Below w.heap.size w w' := by
  have H1 := Aside0.mk h1
  have H2 := Aside0.mk h2
  have H3 := Aside0.mk h3
  have HM := Aside0.mk (Hd.nil w)
  clear h1 h2 h3
  unfold sdI
  go_enter Try.func26, Try.ntmps26
  go_upto_region 3 with (first
    | ((with_reducible refine gate_dst (N := 3) rfl ?_); refine box_event ?hg (N := 3) ?hd (cs := #[.int .i64 ax, .int .i64 ay]) (t := 25) ?hr ?_; (case hd => rfl); (case hg => rfl); (case hr => first | (go_simp; done) | (go_simp; rfl)); intro g3 e_ w_ b_ hb; replace HM := Aside0.mk (HM.out.box hb b_ e_); clear e_ b_ hb)
    | ((with_reducible refine gate_dst (N := 4) rfl ?_); refine box_event ?hg (N := 4) ?hd (cs := #[.int .i64 bx, .int .i64 by_]) (t := 25) ?hr ?_; (case hd => rfl); (case hg => rfl); (case hr => first | (go_simp; done) | (go_simp; rfl)); intro g4 e_ w_ b_ hb; replace HM := Aside0.mk (HM.out.box hb b_ e_); clear e_ b_ hb)
    | ((with_reducible refine gate_dst (N := 5) rfl ?_); refine box_event ?hg (N := 5) ?hd (cs := #[.int .i64 cx, .int .i64 cy]) (t := 25) ?hr ?_; (case hd => rfl); (case hg => rfl); (case hr => first | (go_simp; done) | (go_simp; rfl)); intro g5 e_ w_ b_ hb; replace HM := Aside0.mk (HM.out.box hb b_ e_); clear e_ b_ hb; have ka0 := blk_cell HM.out.a2 0; have ka1 := blk_cell HM.out.a2 1; have kb0 := blk_cell HM.out.a1 0; have kb1 := blk_cell HM.out.a1 1; have kc0 := blk_cell HM.out.a0 0; have kc1 := blk_cell HM.out.a0 1)
    | (go_at_call 23; (with_reducible refine (PointValid_calls ax ay _).mono ?_); rintro e w_ ⟨rfl, hb⟩; rw [H1.out]; replace HM := Aside0.mk (HM.out.keep hb); clear hb; (try clear ka0 ka1 kb0 kb1 kc0 kc1); have ka0 := blk_cell HM.out.a2 0; have ka1 := blk_cell HM.out.a2 1; have kb0 := blk_cell HM.out.a1 0; have kb1 := blk_cell HM.out.a1 1; have kc0 := blk_cell HM.out.a0 0; have kc1 := blk_cell HM.out.a0 1)
    | (go_at_call 23; (with_reducible refine (PointValid_calls bx by_ _).mono ?_); rintro e w_ ⟨rfl, hb⟩; rw [H2.out]; replace HM := Aside0.mk (HM.out.keep hb); clear hb; (try clear ka0 ka1 kb0 kb1 kc0 kc1); have ka0 := blk_cell HM.out.a2 0; have ka1 := blk_cell HM.out.a2 1; have kb0 := blk_cell HM.out.a1 0; have kb1 := blk_cell HM.out.a1 1; have kc0 := blk_cell HM.out.a0 0; have kc1 := blk_cell HM.out.a0 1)
    | (go_at_call 23; (with_reducible refine (PointValid_calls cx cy _).mono ?_); rintro e w_ ⟨rfl, hb⟩; rw [H3.out]; replace HM := Aside0.mk (HM.out.keep hb); clear hb; (try clear ka0 ka1 kb0 kb1 kc0 kc1); have ka0 := blk_cell HM.out.a2 0; have ka1 := blk_cell HM.out.a2 1; have kb0 := blk_cell HM.out.a1 0; have kb1 := blk_cell HM.out.a1 1; have kc0 := blk_cell HM.out.a0 0; have kc1 := blk_cell HM.out.a0 1))
  go_upto_region 4 with (go_at_call 48; (with_reducible refine (pairOf_calls ax ay _).mono ?_); rintro e w_ ⟨rfl, hb⟩; replace HM := Aside0.mk (HM.out.keep hb); clear hb; (try clear ka0 ka1 kb0 kb1 kc0 kc1); have ka0 := blk_cell HM.out.a2 0; have ka1 := blk_cell HM.out.a2 1; have kb0 := blk_cell HM.out.a1 0; have kb1 := blk_cell HM.out.a1 1; have kc0 := blk_cell HM.out.a0 0; have kc1 := blk_cell HM.out.a0 1)
  replace HM := Aside0.mk (HM.out.alloc #[.int .i64 ax, .int .i64 ay] 61)
  clear ka0 ka1 kb0 kb1 kc0 kc1
  generalize w_.alloc (.cells #[.int .i64 ax, .int .i64 ay] 61) = w8 at *
  generalize w_.heap.size = g8 at *
  generalize hp : wrap64 (bx - ax) = p at *
  generalize hq : wrap64 (by_ - ay) = q at *
  generalize hr : wrap64 (cx - ax) = r at *
  generalize hs : wrap64 (cy - ay) = s at *
  have HP := Aside0.mk hp
  have HQ := Aside0.mk hq
  have HR := Aside0.mk hr
  have HS := Aside0.mk hs
  clear hp hq hr hs
  have ka0 := blk_cell HM.out.a3 0
  have ka1 := blk_cell HM.out.a3 1
  have kb0 := blk_cell HM.out.a2 0
  have kb1 := blk_cell HM.out.a2 1
  have kc0 := blk_cell HM.out.a1 0
  have kc1 := blk_cell HM.out.a1 1
  have ks0 := blk_cell HM.out.a0 0
  have ks1 := blk_cell HM.out.a0 1
  go_cut [9] (fun v9 wc => ∃ B : Nat, v9 = .pointer (some ⟨B, 0, none⟩) ∧ Aside0 (Hd w wc [(B, #[.int .i64 p, .int .i64 q], 61), (g8, #[.int .i64 ax, .int .i64 ay], 61), (g5, #[.int .i64 cx, .int .i64 cy], 25), (g4, #[.int .i64 bx, .int .i64 by_], 25), (g3, #[.int .i64 ax, .int .i64 ay], 25)]))
  case first =>
    go_region_held3 (fun w' => w'.cell? ⟨g4, 0, none⟩ = some (.int .i64 bx) ∧ w'.cell? ⟨g4, 1, none⟩ = some (.int .i64 by_) ∧ w'.cell? ⟨g8, 0, none⟩ = some (.int .i64 ax) ∧ w'.cell? ⟨g8, 1, none⟩ = some (.int .i64 ay))
      (first
        | exact ⟨kb0, kb1, ks0, ks1⟩
        | exact ⟨blk_cell HM.out.drew.a2 0, blk_cell HM.out.drew.a2 1, blk_cell HM.out.drew.a0 0, blk_cell HM.out.drew.a0 1⟩
        | exact ⟨blk_cell (HM.out.alloc _ _).a3 0, blk_cell (HM.out.alloc _ _).a3 1, blk_cell (HM.out.alloc _ _).a1 0, blk_cell (HM.out.alloc _ _).a1 1⟩
        | exact ⟨blk_cell (HM.out.drew.alloc _ _).a3 0, blk_cell (HM.out.drew.alloc _ _).a3 1, blk_cell (HM.out.drew.alloc _ _).a1 0, blk_cell (HM.out.drew.alloc _ _).a1 1⟩
        | exact ⟨blk_cell (HM.out.put2 _ _).a3 0, blk_cell (HM.out.put2 _ _).a3 1, blk_cell (HM.out.put2 _ _).a1 0, blk_cell (HM.out.put2 _ _).a1 1⟩
        | exact ⟨blk_cell ((HM.out.alloc _ _).put2 _ _).a3 0, blk_cell ((HM.out.alloc _ _).put2 _ _).a3 1, blk_cell ((HM.out.alloc _ _).put2 _ _).a1 0, blk_cell ((HM.out.alloc _ _).put2 _ _).a1 1⟩
        | go_keep)
      (first
        | (go_at_call 48; (with_reducible refine (pairOf_calls bx by_ _).mono ?_); rintro e w_ ⟨rfl, hb⟩; (first | replace HM := Aside0.mk (HM.out.keep hb) | replace HM := Aside0.mk (HM.out.drew.keep hb) | replace HM := Aside0.mk ((HM.out.alloc #[.int .i64 0, .int .i64 0] 61).keep hb) | replace HM := Aside0.mk ((HM.out.allocDrew #[.int .i64 0, .int .i64 0] 61).keep hb)); clear hb; (try clear ka0); (try clear ka1); (try clear kc0); (try clear kc1); (try clear kn0); (try clear kn1); (try clear knf0); (try clear knf1); (try clear kb0); (try clear kb1); (try clear ks0); (try clear ks1); have kb0 : w_.cell? ⟨g4, 0, none⟩ = some (.int .i64 bx) := (by first | exact blk_cell HM.out.a2 0 | exact blk_cell HM.out.a3 0); have kb1 : w_.cell? ⟨g4, 1, none⟩ = some (.int .i64 by_) := (by first | exact blk_cell HM.out.a2 1 | exact blk_cell HM.out.a3 1); have ks0 : w_.cell? ⟨g8, 0, none⟩ = some (.int .i64 ax) := (by first | exact blk_cell HM.out.a0 0 | exact blk_cell HM.out.a1 0); have ks1 : w_.cell? ⟨g8, 1, none⟩ = some (.int .i64 ay) := (by first | exact blk_cell HM.out.a0 1 | exact blk_cell HM.out.a1 1); have kn0 := blk_cell HM.out.a0 0; have kn1 := blk_cell HM.out.a0 1; have knf0 := blk_frozen HM.out.a0 0; have knf1 := blk_frozen HM.out.a0 1)
        | (go_at_call 51; (with_reducible refine (pairMinus_calls bx by_ ax ay _).mono ?_); rw [HP.out, HQ.out]; rintro e w_ ⟨rfl, hb⟩; (first | replace HM := Aside0.mk (HM.out.keep hb) | replace HM := Aside0.mk (HM.out.drew.keep hb) | replace HM := Aside0.mk ((HM.out.alloc #[.int .i64 0, .int .i64 0] 61).keep hb) | replace HM := Aside0.mk ((HM.out.allocDrew #[.int .i64 0, .int .i64 0] 61).keep hb)); clear hb; (try clear ka0); (try clear ka1); (try clear kc0); (try clear kc1); (try clear kn0); (try clear kn1); (try clear knf0); (try clear knf1); (try clear kb0); (try clear kb1); (try clear ks0); (try clear ks1); have kb0 : w_.cell? ⟨g4, 0, none⟩ = some (.int .i64 bx) := (by first | exact blk_cell HM.out.a2 0 | exact blk_cell HM.out.a3 0); have kb1 : w_.cell? ⟨g4, 1, none⟩ = some (.int .i64 by_) := (by first | exact blk_cell HM.out.a2 1 | exact blk_cell HM.out.a3 1); have ks0 : w_.cell? ⟨g8, 0, none⟩ = some (.int .i64 ax) := (by first | exact blk_cell HM.out.a0 0 | exact blk_cell HM.out.a1 0); have ks1 : w_.cell? ⟨g8, 1, none⟩ = some (.int .i64 ay) := (by first | exact blk_cell HM.out.a0 1 | exact blk_cell HM.out.a1 1); have kn0 := blk_cell HM.out.a0 0; have kn1 := blk_cell HM.out.a0 1; have knf0 := blk_frozen HM.out.a0 0; have knf1 := blk_frozen HM.out.a0 1))
    all_goals
      go_wp2_with fail
      go_meet
      case rel => first | exact ⟨_, rfl, ⟨HM.out.put2 _ _⟩⟩ | exact ⟨_, rfl, ⟨HM.out.alloc _ _⟩⟩ | exact ⟨_, rfl, ⟨(HM.out.alloc _ _).put2 _ _⟩⟩
  case rest =>
    obtain ⟨B, rfl, HMc⟩ := hcut
    clear HM ka0 ka1 kb0 kb1 kc0 kc1 ks0 ks1
    have HM := HMc
    clear HMc
    have kl0 := blk_cell HM.out.a0 0
    have kl1 := blk_cell HM.out.a0 1
    have ks0 := blk_cell HM.out.a1 0
    have ks1 := blk_cell HM.out.a1 1
    have kc0 := blk_cell HM.out.a2 0
    have kc1 := blk_cell HM.out.a2 1
    go_wp2_with fail
    go_region_held3 (fun w' => w'.cell? ⟨B, 0, none⟩ = some (.int .i64 p) ∧ w'.cell? ⟨B, 1, none⟩ = some (.int .i64 q) ∧ w'.cell? ⟨g8, 0, none⟩ = some (.int .i64 ax) ∧ w'.cell? ⟨g8, 1, none⟩ = some (.int .i64 ay) ∧ w'.cell? ⟨g5, 0, none⟩ = some (.int .i64 cx) ∧ w'.cell? ⟨g5, 1, none⟩ = some (.int .i64 cy))
      (first
        | exact ⟨kl0, kl1, ks0, ks1, kc0, kc1⟩
        | exact ⟨blk_cell HM.out.drew.a0 0, blk_cell HM.out.drew.a0 1, blk_cell HM.out.drew.a1 0, blk_cell HM.out.drew.a1 1, blk_cell HM.out.drew.a2 0, blk_cell HM.out.drew.a2 1⟩
        | go_keep)
      (first
        | (go_at_call 48; (with_reducible refine (pairOf_calls cx cy _).mono ?_); rintro e w_ ⟨rfl, hb⟩; (first | replace HM := Aside0.mk (HM.out.keep hb) | replace HM := Aside0.mk (HM.out.drew.keep hb)); clear hb; (try clear kl0); (try clear kl1); (try clear ks0); (try clear ks1); (try clear kc0); (try clear kc1); have kl0 := blk_cell HM.out.a0 0; have kl1 := blk_cell HM.out.a0 1; have ks0 := blk_cell HM.out.a1 0; have ks1 := blk_cell HM.out.a1 1; have kc0 := blk_cell HM.out.a2 0; have kc1 := blk_cell HM.out.a2 1)
        | (go_at_call 51; (with_reducible refine (pairMinus_calls cx cy ax ay _).mono ?_); rw [HR.out, HS.out]; rintro e w_ ⟨rfl, hb⟩; (first | replace HM := Aside0.mk (HM.out.keep hb) | replace HM := Aside0.mk (HM.out.drew.keep hb)); clear hb; (try clear kl0); (try clear kl1); (try clear ks0); (try clear ks1); (try clear kc0); (try clear kc1); have kl0 := blk_cell HM.out.a0 0; have kl1 := blk_cell HM.out.a0 1; have ks0 := blk_cell HM.out.a1 0; have ks1 := blk_cell HM.out.a1 1; have kc0 := blk_cell HM.out.a2 0; have kc1 := blk_cell HM.out.a2 1)
        | (go_at_call 53; (with_reducible refine (pairCross_calls p q r s _).mono ?_); rintro e w_ ⟨rfl, hb⟩; (first | replace HM := Aside0.mk (HM.out.keep hb) | replace HM := Aside0.mk (HM.out.drew.keep hb)); clear hb; (try clear kl0); (try clear kl1); (try clear ks0); (try clear ks1); (try clear kc0); (try clear kc1); have kl0 := blk_cell HM.out.a0 0; have kl1 := blk_cell HM.out.a0 1; have ks0 := blk_cell HM.out.a1 0; have ks1 := blk_cell HM.out.a1 1; have kc0 := blk_cell HM.out.a2 0; have kc1 := blk_cell HM.out.a2 1)
        | (go_at_call 52; (with_reducible refine (impl_signInt.calls (wrap64 (wrap64 (p * s) - wrap64 (r * q))) _ _ (sgI_f _)).mono ?_); rintro e w_ ⟨rfl, hd⟩; have hb := hd.below; clear hd; (first | replace HM := Aside0.mk (HM.out.keep hb) | replace HM := Aside0.mk (HM.out.drew.keep hb)); clear hb; (try clear kl0); (try clear kl1); (try clear ks0); (try clear ks1); (try clear kc0); (try clear kc1); have kl0 := blk_cell HM.out.a0 0; have kl1 := blk_cell HM.out.a0 1; have ks0 := blk_cell HM.out.a1 0; have ks1 := blk_cell HM.out.a1 1; have kc0 := blk_cell HM.out.a2 0; have kc1 := blk_cell HM.out.a2 1))
    go_wp2_with fail
    go_ret2
    exact ⟨by rw [HP.out, HQ.out, HR.out, HS.out]; rfl, HM.out.1⟩
theorem side_no1 (ax ay bx by_ cx cy : Int) (h1 : inR ax ay 10000 = false) (w : World) :
    Calls Try.prog 26 #[.agg #[.int .i64 ax, .int .i64 ay], .agg #[.int .i64 bx, .int .i64 by_], .agg #[.int .i64 cx, .int .i64 cy]] w fun e w' => e = .returned (.tuple #[.int .i64 0, .bool false]) ∧ Below w.heap.size w w' := by
  have H1 := Aside0.mk h1
  have HM := Aside0.mk (Hd.nil w)
  clear h1
  go_enter Try.func26, Try.ntmps26
  go_wp2_with (first
    | ((with_reducible refine gate_dst (N := 3) rfl ?_); refine box_event ?hg (N := 3) ?hd (cs := #[.int .i64 ax, .int .i64 ay]) (t := 25) ?hr ?_; (case hd => rfl); (case hg => rfl); (case hr => first | (go_simp; done) | (go_simp; rfl)); intro g3 e_ w_ b_ hb; replace HM := Aside0.mk (HM.out.box hb b_ e_); clear e_ b_ hb)
    | ((with_reducible refine gate_dst (N := 4) rfl ?_); refine box_event ?hg (N := 4) ?hd (cs := #[.int .i64 bx, .int .i64 by_]) (t := 25) ?hr ?_; (case hd => rfl); (case hg => rfl); (case hr => first | (go_simp; done) | (go_simp; rfl)); intro g4 e_ w_ b_ hb; replace HM := Aside0.mk (HM.out.box hb b_ e_); clear e_ b_ hb)
    | ((with_reducible refine gate_dst (N := 5) rfl ?_); refine box_event ?hg (N := 5) ?hd (cs := #[.int .i64 cx, .int .i64 cy]) (t := 25) ?hr ?_; (case hd => rfl); (case hg => rfl); (case hr => first | (go_simp; done) | (go_simp; rfl)); intro g5 e_ w_ b_ hb; replace HM := Aside0.mk (HM.out.box hb b_ e_); clear e_ b_ hb; have ka0 := blk_cell HM.out.a2 0; have ka1 := blk_cell HM.out.a2 1; have kb0 := blk_cell HM.out.a1 0; have kb1 := blk_cell HM.out.a1 1; have kc0 := blk_cell HM.out.a0 0; have kc1 := blk_cell HM.out.a0 1)
    | (go_at_call 23; (with_reducible refine (PointValid_calls ax ay _).mono ?_); rintro e w_ ⟨rfl, hb⟩; rw [H1.out]; replace HM := Aside0.mk (HM.out.keep hb); clear hb; (try clear ka0 ka1 kb0 kb1 kc0 kc1); have ka0 := blk_cell HM.out.a2 0; have ka1 := blk_cell HM.out.a2 1; have kb0 := blk_cell HM.out.a1 0; have kb1 := blk_cell HM.out.a1 1; have kc0 := blk_cell HM.out.a0 0; have kc1 := blk_cell HM.out.a0 1))
  go_ret2
  exact ⟨rfl, HM.out.1⟩
theorem side_no2 (ax ay bx by_ cx cy : Int) (h1 : inR ax ay 10000 = true) (h2 : inR bx by_ 10000 = false) (w : World) :
    Calls Try.prog 26 #[.agg #[.int .i64 ax, .int .i64 ay], .agg #[.int .i64 bx, .int .i64 by_], .agg #[.int .i64 cx, .int .i64 cy]] w fun e w' => e = .returned (.tuple #[.int .i64 0, .bool false]) ∧ Below w.heap.size w w' := by
  have H1 := Aside0.mk h1
  have H2 := Aside0.mk h2
  have HM := Aside0.mk (Hd.nil w)
  clear h1 h2
  go_enter Try.func26, Try.ntmps26
  go_wp2_with (first
    | ((with_reducible refine gate_dst (N := 3) rfl ?_); refine box_event ?hg (N := 3) ?hd (cs := #[.int .i64 ax, .int .i64 ay]) (t := 25) ?hr ?_; (case hd => rfl); (case hg => rfl); (case hr => first | (go_simp; done) | (go_simp; rfl)); intro g3 e_ w_ b_ hb; replace HM := Aside0.mk (HM.out.box hb b_ e_); clear e_ b_ hb)
    | ((with_reducible refine gate_dst (N := 4) rfl ?_); refine box_event ?hg (N := 4) ?hd (cs := #[.int .i64 bx, .int .i64 by_]) (t := 25) ?hr ?_; (case hd => rfl); (case hg => rfl); (case hr => first | (go_simp; done) | (go_simp; rfl)); intro g4 e_ w_ b_ hb; replace HM := Aside0.mk (HM.out.box hb b_ e_); clear e_ b_ hb)
    | ((with_reducible refine gate_dst (N := 5) rfl ?_); refine box_event ?hg (N := 5) ?hd (cs := #[.int .i64 cx, .int .i64 cy]) (t := 25) ?hr ?_; (case hd => rfl); (case hg => rfl); (case hr => first | (go_simp; done) | (go_simp; rfl)); intro g5 e_ w_ b_ hb; replace HM := Aside0.mk (HM.out.box hb b_ e_); clear e_ b_ hb; have ka0 := blk_cell HM.out.a2 0; have ka1 := blk_cell HM.out.a2 1; have kb0 := blk_cell HM.out.a1 0; have kb1 := blk_cell HM.out.a1 1; have kc0 := blk_cell HM.out.a0 0; have kc1 := blk_cell HM.out.a0 1)
    | (go_at_call 23; (with_reducible refine (PointValid_calls ax ay _).mono ?_); rintro e w_ ⟨rfl, hb⟩; rw [H1.out]; replace HM := Aside0.mk (HM.out.keep hb); clear hb; (try clear ka0 ka1 kb0 kb1 kc0 kc1); have ka0 := blk_cell HM.out.a2 0; have ka1 := blk_cell HM.out.a2 1; have kb0 := blk_cell HM.out.a1 0; have kb1 := blk_cell HM.out.a1 1; have kc0 := blk_cell HM.out.a0 0; have kc1 := blk_cell HM.out.a0 1)
    | (go_at_call 23; (with_reducible refine (PointValid_calls bx by_ _).mono ?_); rintro e w_ ⟨rfl, hb⟩; rw [H2.out]; replace HM := Aside0.mk (HM.out.keep hb); clear hb; (try clear ka0 ka1 kb0 kb1 kc0 kc1); have ka0 := blk_cell HM.out.a2 0; have ka1 := blk_cell HM.out.a2 1; have kb0 := blk_cell HM.out.a1 0; have kb1 := blk_cell HM.out.a1 1; have kc0 := blk_cell HM.out.a0 0; have kc1 := blk_cell HM.out.a0 1))
  go_ret2
  exact ⟨rfl, HM.out.1⟩
theorem side_no3 (ax ay bx by_ cx cy : Int) (h1 : inR ax ay 10000 = true) (h2 : inR bx by_ 10000 = true) (h3 : inR cx cy 10000 = false) (w : World) :
    Calls Try.prog 26 #[.agg #[.int .i64 ax, .int .i64 ay], .agg #[.int .i64 bx, .int .i64 by_], .agg #[.int .i64 cx, .int .i64 cy]] w fun e w' => e = .returned (.tuple #[.int .i64 0, .bool false]) ∧ Below w.heap.size w w' := by
  have H1 := Aside0.mk h1
  have H2 := Aside0.mk h2
  have H3 := Aside0.mk h3
  have HM := Aside0.mk (Hd.nil w)
  clear h1 h2 h3
  go_enter Try.func26, Try.ntmps26
  go_wp2_with (first
    | ((with_reducible refine gate_dst (N := 3) rfl ?_); refine box_event ?hg (N := 3) ?hd (cs := #[.int .i64 ax, .int .i64 ay]) (t := 25) ?hr ?_; (case hd => rfl); (case hg => rfl); (case hr => first | (go_simp; done) | (go_simp; rfl)); intro g3 e_ w_ b_ hb; replace HM := Aside0.mk (HM.out.box hb b_ e_); clear e_ b_ hb)
    | ((with_reducible refine gate_dst (N := 4) rfl ?_); refine box_event ?hg (N := 4) ?hd (cs := #[.int .i64 bx, .int .i64 by_]) (t := 25) ?hr ?_; (case hd => rfl); (case hg => rfl); (case hr => first | (go_simp; done) | (go_simp; rfl)); intro g4 e_ w_ b_ hb; replace HM := Aside0.mk (HM.out.box hb b_ e_); clear e_ b_ hb)
    | ((with_reducible refine gate_dst (N := 5) rfl ?_); refine box_event ?hg (N := 5) ?hd (cs := #[.int .i64 cx, .int .i64 cy]) (t := 25) ?hr ?_; (case hd => rfl); (case hg => rfl); (case hr => first | (go_simp; done) | (go_simp; rfl)); intro g5 e_ w_ b_ hb; replace HM := Aside0.mk (HM.out.box hb b_ e_); clear e_ b_ hb; have ka0 := blk_cell HM.out.a2 0; have ka1 := blk_cell HM.out.a2 1; have kb0 := blk_cell HM.out.a1 0; have kb1 := blk_cell HM.out.a1 1; have kc0 := blk_cell HM.out.a0 0; have kc1 := blk_cell HM.out.a0 1)
    | (go_at_call 23; (with_reducible refine (PointValid_calls ax ay _).mono ?_); rintro e w_ ⟨rfl, hb⟩; rw [H1.out]; replace HM := Aside0.mk (HM.out.keep hb); clear hb; (try clear ka0 ka1 kb0 kb1 kc0 kc1); have ka0 := blk_cell HM.out.a2 0; have ka1 := blk_cell HM.out.a2 1; have kb0 := blk_cell HM.out.a1 0; have kb1 := blk_cell HM.out.a1 1; have kc0 := blk_cell HM.out.a0 0; have kc1 := blk_cell HM.out.a0 1)
    | (go_at_call 23; (with_reducible refine (PointValid_calls bx by_ _).mono ?_); rintro e w_ ⟨rfl, hb⟩; rw [H2.out]; replace HM := Aside0.mk (HM.out.keep hb); clear hb; (try clear ka0 ka1 kb0 kb1 kc0 kc1); have ka0 := blk_cell HM.out.a2 0; have ka1 := blk_cell HM.out.a2 1; have kb0 := blk_cell HM.out.a1 0; have kb1 := blk_cell HM.out.a1 1; have kc0 := blk_cell HM.out.a0 0; have kc1 := blk_cell HM.out.a0 1)
    | (go_at_call 23; (with_reducible refine (PointValid_calls cx cy _).mono ?_); rintro e w_ ⟨rfl, hb⟩; rw [H3.out]; replace HM := Aside0.mk (HM.out.keep hb); clear hb; (try clear ka0 ka1 kb0 kb1 kc0 kc1); have ka0 := blk_cell HM.out.a2 0; have ka1 := blk_cell HM.out.a2 1; have kb0 := blk_cell HM.out.a1 0; have kb1 := blk_cell HM.out.a1 1; have kc0 := blk_cell HM.out.a0 0; have kc1 := blk_cell HM.out.a0 1))
  go_ret2
  exact ⟨rfl, HM.out.1⟩
def impl_PointSide.f (a0_0 : Int) (a0_1 : Int) (a1_0 : Int) (a1_1 : Int) (a2_0 : Int) (a2_1 : Int) : Option (Int × Bool) := some (sdP a0_0 a0_1 a1_0 a1_1 a2_0 a2_1)
theorem impl_PointSide.calls (a0_0 : Int) (a0_1 : Int) (a1_0 : Int) (a1_1 : Int) (a2_0 : Int) (a2_1 : Int) (r1 : Int) (r2 : Bool) (w : World) (h : impl_PointSide.f a0_0 a0_1 a1_0 a1_1 a2_0 a2_1 = some (r1, r2)) :
    Calls Try.prog 26 #[.agg #[.int .i64 a0_0, .int .i64 a0_1], .agg #[.int .i64 a1_0, .int .i64 a1_1], .agg #[.int .i64 a2_0, .int .i64 a2_1]] w fun e w' => e = .returned (.tuple #[.int .i64 r1, .bool r2]) ∧ Below w.heap.size w w' := by
  have h := Option.some.inj h
  unfold sdP at h
  cases h1 : inR a0_0 a0_1 10000 with
  | false =>
    rw [h1, if_neg (by simp)] at h
    obtain ⟨rfl, rfl⟩ := Prod.mk.inj h
    exact side_no1 _ _ _ _ _ _ h1 w
  | true =>
    cases h2 : inR a1_0 a1_1 10000 with
    | false =>
      rw [h1, h2, if_neg (by simp)] at h
      obtain ⟨rfl, rfl⟩ := Prod.mk.inj h
      exact side_no2 _ _ _ _ _ _ h1 h2 w
    | true =>
      cases h3 : inR a2_0 a2_1 10000 with
      | false =>
        rw [h1, h2, h3, if_neg (by simp)] at h
        obtain ⟨rfl, rfl⟩ := Prod.mk.inj h
        exact side_no3 _ _ _ _ _ _ h1 h2 h3 w
      | true =>
        rw [h1, h2, h3, if_pos (by simp)] at h
        obtain ⟨rfl, rfl⟩ := Prod.mk.inj h
        exact side_yes _ _ _ _ _ _ h1 h2 h3 w

end Go.Proofs.Ytgoejfdciejikaa.P
