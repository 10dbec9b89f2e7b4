import Derived.IntWalk
import Derived.Test.YtppfoebalhdibaaWMore
namespace Go.Proofs.Ytppfoebalhdibaa.Ev
open Go.RowKit Go.Proofs.YtppfoebalhdibaaW.PrintWords Go.Proofs.YtppfoebalhdibaaW.PrintMore
def EvQ {β : Type} (g : Nat → Option β) (Q : β → Prop) : Prop := ∃ r, Q r ∧ ∃ K, ∀ k, K ≤ k → g k = some r
theorem EvQ.rounds {β : Type} {g : Nat → Option β} {r : β} (h : EvQ g (fun x => x = r)) : ∃ k, g k = some r := by
  obtain ⟨_, rfl, K, hK⟩ := h
  exact ⟨K, hK K (Nat.le_refl K)⟩
theorem EvQ.ret {β : Type} {r : β} {Q : β → Prop} (h : Q r) : EvQ (fun _ => some r) Q := ⟨r, h, 0, fun _ _ => rfl⟩
theorem EvQ.mono {β : Type} {g : Nat → Option β} {P Q : β → Prop} (h : EvQ g P) (hQ : ∀ r, P r → Q r) : EvQ g Q := by
  obtain ⟨r, hr, K, hK⟩ := h
  exact ⟨r, hQ r hr, K, hK⟩
theorem EvQ.pos {β : Type} {g f : Nat → Option β} {Q : β → Prop} {c : Prop} [Decidable c] (hc : c) (h : EvQ g Q) : EvQ (fun k => if c then g k else f k) Q := by
  simpa only [if_pos hc] using h
theorem EvQ.neg {β : Type} {g f : Nat → Option β} {Q : β → Prop} {c : Prop} [Decidable c] (hc : ¬ c) (h : EvQ f Q) : EvQ (fun k => if c then g k else f k) Q := by
  simpa only [if_neg hc] using h
theorem EvQ.ite {β : Type} {g f : Nat → Option β} {Q : β → Prop} {c : Prop} [Decidable c] (h : c → EvQ g Q) (h' : ¬ c → EvQ f Q) : EvQ (fun k => if c then g k else f k) Q := by
  by_cases hc : c
  · exact EvQ.pos hc (h hc)
  · exact EvQ.neg hc (h' hc)
theorem EvQ.bind {α β : Type} {g : Nat → Option α} {f : Nat → α → Option β} {P : α → Prop} {Q : β → Prop} (h : EvQ g P) (h' : ∀ a, P a → EvQ (fun k => f k a) Q) : EvQ (fun k => (g k).bind (f k)) Q := by
  obtain ⟨a, ha, K, hK⟩ := h
  obtain ⟨r, hr, K', hK'⟩ := h' a ha
  refine ⟨r, hr, max K K', fun k hk => ?_⟩
  simp only []
  rw [hK k (Nat.le_trans (Nat.le_max_left ..) hk)]
  exact hK' k (Nat.le_trans (Nat.le_max_right ..) hk)
theorem EvQ.call {α β : Type} {g : Nat → Option α} {f : Nat → α → Option β} {a : α} {Q : β → Prop} (h : EvQ g (fun x => x = a)) (h' : EvQ (fun k => f k a) Q) : EvQ (fun k => (g k).bind (f k)) Q :=
  h.bind (by rintro _ rfl; exact h')
theorem EvQ.bindc {α β : Type} {x : Option α} {f : Nat → α → Option β} {a : α} {Q : β → Prop} (hx : x = some a) (h' : EvQ (fun k => f k a) Q) : EvQ (fun k => x.bind (f k)) Q := by
  subst hx; exact h'
theorem EvQ.step {β : Type} {g f : Nat → Option β} {Q : β → Prop} (h : ∀ k, g (k + 1) = f k) (h' : EvQ f Q) : EvQ g Q := by
  obtain ⟨r, hr, K, hK⟩ := h'
  refine ⟨r, hr, K + 1, fun k hk => ?_⟩
  obtain ⟨k, rfl⟩ : ∃ m, k = m + 1 := ⟨k - 1, by omega⟩
  rw [h]; exact hK k (by omega)
theorem EvQ.congr {β : Type} {g f : Nat → Option β} {Q : β → Prop} (h : ∀ k, g k = f k) (h' : EvQ f Q) : EvQ g Q := by
  obtain ⟨r, hr, K, hK⟩ := h'
  exact ⟨r, hr, K, fun k hk => (h k).trans (hK k hk)⟩
theorem EvQ.loop {σ β : Type} {g : Nat → Int → σ → Option β} {Q : β → Prop} (n : Nat) (I : Nat → σ → Prop)
    (h : ∀ (i : Nat) (s : σ), i < n → I i s → (∀ s', I (i + 1) s' → EvQ (fun k => g k ((i : Int) + 1) s') Q) → EvQ (fun k => g k (i : Int) s) Q)
    (he : ∀ s, I n s → EvQ (fun k => g k (n : Int) s) Q) : ∀ (i : Nat) (s : σ), i ≤ n → I i s → EvQ (fun k => g k (i : Int) s) Q := by
  intro i
  obtain ⟨d, hd⟩ : ∃ d, n - i = d := ⟨_, rfl⟩
  induction d generalizing i with
  | zero => intro s hi hI; obtain rfl : i = n := by omega
            exact he s hI
  | succ d ih => exact fun s hi hI => h i s (by omega) hI (fun s' hs' => ih (i + 1) (by omega) s' (by omega) hs')
theorem w64 {n : Int} (h : -9223372036854775808 ≤ n) (h' : n ≤ 9223372036854775807) : wrap64 n = n := IntWalk.wrap64_in n ⟨h, h'⟩
end Go.Proofs.Ytppfoebalhdibaa.Ev
