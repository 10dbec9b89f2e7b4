import Derived.Test.YtfonigbkoligmaaDrawPoint
import Derived.Test.YtfonigbkoligmaaPx5
import Derived.Test.YtfonigbkoligmaaPx6
set_option linter.unusedVariables false
set_option linter.unusedSimpArgs false
namespace Go.Proofs.Ytfonigbkoligmaa.Pick
open Go.RowKit Go.Proofs.Ytfonigbkoligmaa.P Go.Proofs.YtfonigbkoligmaaW.PrintWords Go.Proofs.YtfonigbkoligmaaW.PrintLast Go.Proofs.YtfonigbkoligmaaW.PrintMore Go.Proofs.Ytfonigbkoligmaa.Ev
abbrev PL := List S33
theorem box_tail {b : List Int} {p : Int} (hb : Bytes b) (hp : 0 ≤ p) (hp2 : p ≤ 2000) (x y : Int) (l : PL) (h1 : 1 ≤ l.length) (h2 : l.length ≤ 4) (t : Bool) :
    EvQ (fun k => spec_l92Box.j0 k x y l t b p) (fun r => r.1.length ≤ 12 ∧ p ≤ r.2 ∧ r.2 ≤ p + 2) := by
  refine EvQ.step (fun k => by simp only [spec_l92Box.j0]; rfl) ?_
  have hd : (l.drop 1).length ≤ 3 := by rw [List.length_drop]; omega
  refine EvQ.ite (fun _ => ?_) (fun _ => ?_)
  · refine EvQ.bindc rfl (EvQ.pos (by omega) (EvQ.bindc rfl (EvQ.pos (by simp; omega) (EvQ.bindc rfl ?_))))
    refine EvQ.bind (pick hb hp (by omega)) ?_
    rintro ⟨u, q⟩ ⟨_, _, h3⟩
    simp only [] at h3 ⊢
    refine EvQ.ite (fun _ => ?_) (fun _ => EvQ.ret ⟨by simp; omega, by simp only []; omega, by simp only []; omega⟩)
    exact EvQ.pos (by simp; omega) (EvQ.pos (by simp; omega) (EvQ.bindc rfl (EvQ.pos (by simp; omega) (EvQ.ret ⟨by simp; omega, by simp only []; omega, by simp only []; omega⟩))))
  · refine EvQ.bind (pick hb hp (by omega)) ?_
    rintro ⟨u, q⟩ ⟨_, _, h3⟩
    simp only [] at h3 ⊢
    refine EvQ.ite (fun _ => ?_) (fun _ => EvQ.ret ⟨by simp only []; omega, by simp only []; omega, by simp only []; omega⟩)
    exact EvQ.pos (by omega) (EvQ.pos (by omega) (EvQ.bindc rfl (EvQ.pos (by simp; omega) (EvQ.ret ⟨by simp; omega, by simp only []; omega, by simp only []; omega⟩))))
theorem box {b : List Int} {p : Int} (hb : Bytes b) (hp : 0 ≤ p) (hp2 : p ≤ 1000) : EvQ (fun k => spec_l92Box.f k b p) (fun r => r.1.length ≤ 12 ∧ 0 ≤ r.2 ∧ r.2 ≤ p + 20) := by
  unfold spec_l92Box.f
  refine EvQ.bind (pick hb hp (by omega)) ?_
  rintro ⟨x, q1⟩ ⟨_, _, h1⟩
  simp only [] at h1 ⊢
  refine EvQ.bind (pick hb (by omega) (by omega)) ?_
  rintro ⟨y, q2⟩ ⟨_, _, h2⟩
  simp only [] at h2 ⊢
  refine EvQ.bind (pick hb (by omega) (by omega)) ?_
  rintro ⟨w, q3⟩ ⟨_, _, h3⟩
  simp only [] at h3 ⊢
  refine EvQ.bind (pick hb (by omega) (by omega)) ?_
  rintro ⟨h, q4⟩ ⟨_, _, h4⟩
  simp only [] at h4 ⊢
  refine EvQ.bindc rfl (EvQ.ite (fun _ => EvQ.bind (pick hb (by omega) (by omega)) ?_) (fun _ => ?_))
  · rintro ⟨v, q5⟩ ⟨_, _, h5⟩
    simp only [] at h5 ⊢
    exact (box_tail hb (by omega) (by omega) _ _ _ (by simp) (by simp) _).mono (fun r hr => ⟨hr.1, by omega, by omega⟩)
  · exact (box_tail hb (by omega) (by omega) _ _ _ (by simp) (by simp) _).mono (fun r hr => ⟨hr.1, by omega, by omega⟩)
theorem star1 {b : List Int} {p : Int} (hb : Bytes b) (hp : 0 ≤ p) (hp2 : p ≤ 1000) : EvQ (fun k => spec_l92Star.f k b p) (fun r => r.1.length ≤ 12 ∧ 1 ≤ r.1.length ∧ 0 ≤ r.2 ∧ r.2 ≤ p + 40) := by
  unfold spec_l92Star.f
  generalize hL : ([(⟨2, 0⟩ : S33), (⟨2, 1⟩ : S33), (⟨1, 2⟩ : S33), (⟨0, 2⟩ : S33), (⟨(-1), 2⟩ : S33), (⟨(-2), 1⟩ : S33), (⟨(-2), 0⟩ : S33), (⟨(-2), (-1)⟩ : S33), (⟨(-1), (-2)⟩ : S33), (⟨0, (-2)⟩ : S33), (⟨1, (-2)⟩ : S33), (⟨2, (-1)⟩ : S33)] : PL) = W
  have hW : W.length = 12 := by rw [← hL]; rfl
  refine EvQ.loop (σ := PL × Int) (g := fun k i s => spec_l92Star.l0 k W s.1 i b s.2) 12 (fun i s => s.1.length ≤ i ∧ (0 < i → 1 ≤ s.1.length) ∧ p ≤ s.2 ∧ s.2 ≤ p + 2 * i) ?_ ?_ 0 ([], p) (by omega) ⟨by simp, by simp, by simp, by simp⟩
  · rintro i ⟨s, q⟩ hi ⟨h1, h0, h2, h3⟩ ih
    simp only [] at h1 h0 h2 h3 ⊢
    refine EvQ.step (fun k => by simp only [spec_l92Star.l0]; rfl) ?_
    rw [w64 (n := (i : Int) + 1) (by omega) (by omega)]
    refine EvQ.pos (by omega) (EvQ.ite (fun _ => EvQ.bind (pick hb (by omega) (by omega)) ?_) (fun hm => EvQ.bind (pick hb (by omega) (by omega)) ?_))
    · rintro ⟨u, q1⟩ ⟨_, _, h4⟩
      simp only [] at h4 ⊢
      exact EvQ.pos (by omega) (EvQ.pos (by omega) (ih (_, q1) ⟨by simp; omega, by simp, by simp only []; omega, by simp only []; push_cast; omega⟩))
    · rintro ⟨u, q1⟩ ⟨_, _, h4⟩
      simp only [] at h4 ⊢
      refine EvQ.ite (fun _ => EvQ.bind (pick hb (by omega) (by omega)) ?_) (fun _ => ih (s, q1) ⟨by simp only []; omega, fun _ => h0 (by rcases Nat.eq_zero_or_pos i with e | e; subst e; exact absurd rfl hm; exact e), by simp only []; omega, by simp only []; push_cast; omega⟩)
      rintro ⟨v, q2⟩ ⟨_, _, h5⟩
      simp only [] at h5 ⊢
      exact EvQ.pos (by omega) (EvQ.pos (by omega) (ih (_, q2) ⟨by simp; omega, by simp, by simp only []; omega, by simp only []; push_cast; omega⟩))
  · rintro ⟨s, q⟩ ⟨h1, h0, h2, h3⟩
    simp only [] at h1 h0 h2 h3 ⊢
    refine EvQ.step (fun k => by simp only [spec_l92Star.l0]; rfl) ?_
    exact EvQ.neg (by omega) (EvQ.ret ⟨by simp only []; omega, h0 (by omega), by simp only []; omega, by simp only []; omega⟩)
theorem inD (a b c : Int) : ∃ r, spec_l6In.f a b c = some r := by
  unfold spec_l6In.f
  split <;> exact ⟨_, rfl⟩
theorem validD (x y : Int) : ∃ r, spec_PointValid.f x y = some r := by
  unfold spec_PointValid.f
  obtain ⟨r, h⟩ := inD x (-10000) 10000
  rw [h, Option.bind_some]
  split
  · obtain ⟨r2, h2⟩ := inD y (-10000) 10000
    rw [h2, Option.bind_some]; exact ⟨_, rfl⟩
  · exact ⟨_, rfl⟩
theorem pointsD {l : PL} (hl : l.length ≤ 1000) : EvQ (fun k => spec_l31Points.f k l) (fun _ => True) := by
  unfold spec_l31Points.f
  refine EvQ.loop (σ := Unit) (g := fun k i _ => spec_l31Points.l0 k l i) l.length (fun i _ => True) ?_ ?_ 0 () (by omega) trivial
  · rintro i _ hi _ ih
    refine EvQ.step (fun k => by simp only [spec_l31Points.l0]; rfl) ?_
    obtain ⟨r, h⟩ := validD (rd_T33 l (i : Int)).f0 (rd_T33 l (i : Int)).f1
    refine EvQ.pos (by omega) (EvQ.pos (by omega) (EvQ.bindc h (EvQ.ite (fun _ => ?_) (fun _ => EvQ.ret trivial))))
    rw [w64 (n := (i : Int) + 1) (by omega) (by omega)]
    exact ih () trivial
  · rintro _ _
    refine EvQ.step (fun k => by simp only [spec_l31Points.l0]; rfl) ?_
    obtain ⟨r, h⟩ := inD (l.length : Int) 3 12
    exact EvQ.neg (by omega) (EvQ.bindc h (EvQ.ret trivial))
theorem backD {l : PL} (hl : l.length ≤ 12) (h1 : 1 ≤ l.length) : EvQ (fun k => spec_PolyBack.f k l) (fun r => r.1.length ≤ 12) := by
  unfold spec_PolyBack.f
  refine EvQ.bind (pointsD (by omega)) (fun t _ => EvQ.ite (fun _ => EvQ.pos (by omega) ?_) (fun _ => EvQ.ret (by simp)))
  rw [w64 (n := (l.length : Int) - 1) (by omega) (by omega)]
  have h := EvQ.while (σ := PL × Nat) (Q := fun r : PL × Bool => r.1.length ≤ 12) (g := fun k s => spec_PolyBack.l0 k l s.1 (s.2 : Int)) (fun s => s.2) (fun s => s.1.length + s.2 = l.length ∧ 1 ≤ s.1.length) (by
    rintro ⟨s, i⟩ hs ih
    simp only [] at hs ⊢
    refine EvQ.step (fun k => by simp only [spec_PolyBack.l0]; rfl) ?_
    refine EvQ.ite (fun h0 => ?_) (fun h0 => EvQ.ret (by simp only []; omega))
    refine EvQ.pos (by omega) (EvQ.pos (by omega) (EvQ.pos (by omega) ?_))
    rw [w64 (n := (i : Int) - 1) (by omega) (by omega), show (i : Int) - 1 = ((i - 1 : Nat) : Int) by omega]
    exact ih (_, i - 1) ⟨by simp; omega, by simp⟩ (by simp only []; omega)) ([⟨(rd_T33 l 0).f0, (rd_T33 l 0).f1⟩], l.length - 1) ⟨by simp; omega, by simp⟩
  simp only [] at h
  rw [show ((l.length - 1 : Nat) : Int) = (l.length : Int) - 1 by omega] at h
  exact h
theorem poly {b : List Int} {p : Int} (hb : Bytes b) (hp : 0 ≤ p) (hp2 : p ≤ 100) : EvQ (fun k => spec_l92Poly.f k b p) (fun r => r.1.length ≤ 12 ∧ 0 ≤ r.2 ∧ r.2 ≤ 1000) := by
  unfold spec_l92Poly.f
  refine EvQ.bind (pick hb hp (by omega)) ?_
  rintro ⟨v, q⟩ ⟨_, _, h1⟩
  simp only [] at h1 ⊢
  have hbox : EvQ (fun k => (spec_l92Box.f k b q).bind fun bt => some (bt.1, bt.2)) (fun r => r.1.length ≤ 12 ∧ 0 ≤ r.2 ∧ r.2 ≤ 1000) :=
    EvQ.bind (box hb (by omega) (by omega)) (fun r hr => EvQ.ret ⟨hr.1, hr.2.1, by simp only []; omega⟩)
  refine EvQ.ite (fun _ => ?_) (fun _ => EvQ.ite (fun _ => hbox) (fun _ => EvQ.ite (fun _ => hbox) (fun _ => EvQ.ite (fun _ => hbox) (fun _ => ?_))))
  · refine EvQ.bind (pick hb (by omega) (by omega)) ?_
    rintro ⟨n, q1⟩ ⟨h2, h3, h4⟩
    simp only [] at h2 h3 h4 ⊢
    have h3 := h3 (by omega)
    obtain ⟨m, rfl⟩ := Int.eq_ofNat_of_zero_le h2
    refine EvQ.loop (σ := PL × Int) (g := fun k i s => spec_l92Poly.l0 k s.1 (m : Int) i b s.2) m (fun i s => s.1.length = i ∧ q1 ≤ s.2 ∧ s.2 ≤ q1 + 5 * i) ?_ ?_ 0 ([], q1) (by omega) ⟨rfl, by simp, by simp⟩
    · rintro i ⟨s, q2⟩ hi ⟨a1, a2, a3⟩ ih
      simp only [] at a1 a2 a3 ⊢
      refine EvQ.step (fun k => by simp only [spec_l92Poly.l0]; rfl) ?_
      refine EvQ.pos (by omega) (EvQ.bind (point hb (by omega) (by omega)) ?_)
      rintro ⟨x, y, q3⟩ ⟨_, _, b1, b2⟩
      simp only [] at b1 b2 ⊢
      rw [w64 (n := (i : Int) + 1) (by omega) (by omega)]
      exact EvQ.pos (by omega) (ih (_, q3) ⟨by simp; omega, by simp only []; omega, by simp only []; push_cast; omega⟩)
    · rintro ⟨s, q2⟩ ⟨a1, a2, a3⟩
      simp only [] at a1 a2 a3 ⊢
      refine EvQ.step (fun k => by simp only [spec_l92Poly.l0]; rfl) ?_
      exact EvQ.neg (by omega) (EvQ.ret ⟨by simp only []; omega, by simp only []; omega, by simp only []; omega⟩)
  · refine EvQ.bind (P := fun r => r.1.length ≤ 12 ∧ 1 ≤ r.1.length ∧ 0 ≤ r.2 ∧ r.2 ≤ q + 40) ?_ ?_
    · exact (star1 hb (by omega) (by omega))
    · rintro ⟨s, q1⟩ ⟨h2, h3, h4, h5⟩
      simp only [] at h2 h3 h4 h5 ⊢
      refine EvQ.bind (pick hb (by omega) (by omega)) ?_
      rintro ⟨u, q2⟩ ⟨_, _, h6⟩
      simp only [] at h6 ⊢
      refine EvQ.ite (fun _ => EvQ.bind (backD h2 h3) (fun r hr => EvQ.ret ⟨hr, by simp only []; omega, by simp only []; omega⟩)) (fun _ => EvQ.ret ⟨h2, by simp only []; omega, by simp only []; omega⟩)
end Go.Proofs.Ytfonigbkoligmaa.Pick
