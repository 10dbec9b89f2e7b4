import Derived.Test.YtolkcbnolbkgmaaWMore
import Derived.Deep.Slices
import Derived.Deep.Strs
import Derived.SizedLaws
set_option linter.unusedVariables false
namespace Go.Proofs.YtolkcbnolbkgmaaW.PrintWords
open Go.RowKit Go.ChangeShapes Go.WideShapes Go.Deep
section
variable {H : Type} {enc : TypeId × Value → H} {P : Program} {w : World} {base : Nat} {held : Bool} {spare : Nat → Bool}
theorem xr_choose {α : Type} [Inhabited α] {m : Nat} {p : Nat → α → Prop} (h : ∀ i, i < m → ∃ y, p i y) : ∃ f : Nat → α, ∀ i, i < m → p i (f i) := by
  induction m with
  | zero => exact ⟨fun _ => default, fun i hi => absurd hi (Nat.not_lt_zero i)⟩
  | succ m ih =>
    obtain ⟨f, hf⟩ := ih (fun i hi => h i (by omega))
    obtain ⟨y, hy⟩ := h m (by omega)
    refine ⟨fun i => if i = m then y else f i, fun i hi => ?_⟩
    by_cases hm : i = m
    · simp only [hm, if_true]; exact hy
    · simp only [hm, if_false]; exact hf i (by omega)
theorem xr_add (a : Addr) (x y : Nat) : (a.add x).add y = a.add (x + y) := by
  unfold Addr.add
  by_cases hx : x = 0 <;> by_cases hy : y = 0 <;> simp [hx, hy, Nat.add_assoc]
theorem open_C {α : Type} [Inhabited α] (d : Kd α) {t e : TypeId} {fuel : Nat} {cs : List Value} {x : DataW H × List MemPlace} {G : α → Prop} (ht : P.underlying t = some (.slice e)) (hsz : P.cellsOf e = d.sz)
    (helem : ∀ n cs x, DataW.trod enc P w base spare held n e cs = some x → ∃ y : α, d.K w y cs ∧ G y)
    (h : DataW.trod enc P w base spare held fuel t cs = some x) :
    ∃ (A : Option Addr) (cap : Nat) (l : List α), cs = [.slice A l.length cap] ∧ l.length ≤ cap ∧ cap ≤ maxLen ∧ d.C w A l.length l ∧ ∀ y ∈ l, G y := by
  rcases open_slice ht h with ⟨rfl, _⟩ | ⟨a, len, cap, m, n, D, Pl, rfl, hb, hl, hm, hmm, rfl, hx⟩
  · exact ⟨none, 0, [], rfl, Nat.le_refl _, by simp [maxLen], ⟨rfl, by simp, fun h0 => absurd h0 (Nat.lt_irrefl _)⟩, fun _ h => by simp at h⟩
  · have hlm : len ≤ m := by rw [hmm]; split <;> omega
    have key : ∀ i, i < len → ∃ y : α, G y ∧ ∃ c : List Value, c.length = d.sz ∧ d.K w y c ∧ ∀ j u, c[j]? = some u → w.cell? (a.add (i * d.sz + j)) = some u := by
      intro i hi
      obtain ⟨cs', h1, h2⟩ := hx i (by omega)
      rw [hsz] at h1
      obtain ⟨_, hlen, hc⟩ := World.cells?_some h1
      obtain ⟨y, hy, hg⟩ := helem _ _ _ h2
      refine ⟨y, hg, cs', hlen, hy, fun j u hu => ?_⟩
      have hj : j < d.sz := by
        have := (List.getElem?_eq_some_iff.1 hu).1
        omega
      rw [← xr_add, hc j hj, hu]
    obtain ⟨f, hf⟩ := xr_choose key
    have hll : ((List.range len).map f).length = len := by simp
    refine ⟨some a, cap, (List.range len).map f, by rw [hll], by rw [hll]; exact hl, hm, ?_, ?_⟩
    · rw [hll]
      refine ⟨hll, by unfold maxLen at hm; omega, fun _ => ⟨a, rfl, fun j p hp => ?_⟩⟩
      obtain ⟨hj, rfl⟩ := List.getElem?_eq_some_iff.1 hp
      have hj' : j < len := by rw [hll] at hj; exact hj
      have := (hf j hj').2
      simpa using this
    · intro y hy
      obtain ⟨i, hi, rfl⟩ := List.mem_map.1 hy
      exact (hf i (List.mem_range.1 hi)).1
theorem field1 {t : TypeId} {n : Nat} {cs : List Value} {x : DataW H × List MemPlace} {k : IntKind} {off : Nat} (ht : P.underlying t = some (.int k)) (hc : P.cellsOf t = 1) (h : DataW.trod enc P w base spare held n t ((cs.drop off).take (P.cellsOf t)) = some x) :
    ∃ a, cs[off]? = some (.int k a) ∧ (Lit.int k a).wf = true := by
  obtain ⟨a, ha, _, hw⟩ := DataW.trod_int ht h
  refine ⟨a, ?_, hw⟩
  rw [hc] at ha
  have : ((cs.drop off).take 1)[0]? = some (.int k a) := by rw [ha]; rfl
  simpa [List.getElem?_take, List.getElem?_drop] using this
theorem elem2 {t : TypeId} {f0 f1 : Field} {k0 k1 : IntKind} (hs : P.underlying t = some (.struct #[f0, f1])) (hC : P.cellsOf t = 2) (t0 : P.underlying f0.type = some (.int k0)) (t1 : P.underlying f1.type = some (.int k1))
    (c0 : P.cellsOf f0.type = 1) (c1 : P.cellsOf f1.type = 1) (o0 : f0.offset = 0) (o1 : f1.offset = 1) {n : Nat} {cs : List Value} {x : DataW H × List MemPlace} (h : DataW.trod enc P w base spare held n t cs = some x) :
    ∃ a b, cs = [.int k0 a, .int k1 b] ∧ (Lit.int k0 a).wf = true ∧ (Lit.int k1 b).wf = true := by
  obtain ⟨y0, y1, n', _, hl, h0, h1⟩ := trod_struct2 hs h
  obtain ⟨a, ha, wa⟩ := field1 t0 c0 h0
  obtain ⟨b, hb, wb⟩ := field1 t1 c1 h1
  rw [hC] at hl
  rw [o0] at ha; rw [o1] at hb
  match cs, hl with
  | [u, v], _ => simp at ha hb; subst ha; subst hb; exact ⟨a, b, rfl, wa, wb⟩
end
end Go.Proofs.YtolkcbnolbkgmaaW.PrintWords
