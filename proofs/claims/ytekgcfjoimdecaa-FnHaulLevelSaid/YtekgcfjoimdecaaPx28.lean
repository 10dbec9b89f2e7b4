-- Written by a program of this session (wip/xprint.py over the print's own program), not by print.sh. Lean checks it.
import Derived.Test.YtekgcfjoimdecaaPx0
import Derived.Test.YtekgcfjoimdecaaPx4
namespace Go.Proofs.Ytekgcfjoimdecaa.P
open Go.RowKit Go.Proofs.YtekgcfjoimdecaaW.PrintWords Go.Proofs.YtekgcfjoimdecaaW.PrintLast Go.Proofs.YtekgcfjoimdecaaW.PrintMore
attribute [local go_sem] max2_int min2_int max_two min_two max_three min_three max_four min_four   -- for this text's walks alone
set_option linter.unusedVariables false
set_option linter.unusedSimpArgs false

-- EXTERNAL impl_HaulPlan: function 37
/-- The stations that have too much, and those that miss some, from index i on. -/
def hpHave : Int → List Int → List S65
  | _, [] => []
  | i, x :: l => (if x > 0 then [⟨i, x⟩] else []) ++ hpHave (i + 1) l
def hpMiss : Int → List Int → List S65
  | _, [] => []
  | i, x :: l => (if x < 0 then [⟨i, wrap64 (-x)⟩] else []) ++ hpMiss (i + 1) l
/-- A queue after its front's load is less by m. -/
def hpCut (a : S65) (m : Int) (L : List S65) : List S65 := if wrap64 (a.f1 - m) = 0 then L else ⟨a.f0, wrap64 (a.f1 - m)⟩ :: L
def impl_HaulPlan.l0 : Nat → List S47 → List S65 → List S65 → Option (List S47 × Bool)
  | 0, _, _, _ => none
  | k + 1, out, H, M => match H, M with
    | a :: H, b :: M => if out.length < 1000000 then impl_HaulPlan.l0 k (out ++ [⟨a.f0, b.f0, mn a.f1 b.f1⟩]) (hpCut a (mn a.f1 b.f1) H) (hpCut b (mn a.f1 b.f1) M) else none
    | _, _ => some (out, true)
def impl_HaulPlan.f (k : Nat) (l0 : List Int) : Option (List S47 × Bool) := (impl_HaulBalanced.f k l0).bind fun t => if t = true then (if l0.length < 1000000 then impl_HaulPlan.l0 k [] (hpHave 0 l0) (hpMiss 0 l0) else none) else some ([], false)
theorem impl_HaulPlan.mono_l : ∀ (k : Nat) (out : List S47) (H M : List S65), LeO (impl_HaulPlan.l0 k out H M) (impl_HaulPlan.l0 (k + 1) out H M) := by
  intro k
  induction k with
  | zero => intro out H M r hr; simp [impl_HaulPlan.l0] at hr
  | succ k ih =>
    intro out H M r hr
    cases H with
    | nil => simpa [impl_HaulPlan.l0] using hr
    | cons a H => cases M with
      | nil => simpa [impl_HaulPlan.l0] using hr
      | cons b M =>
        unfold impl_HaulPlan.l0 at hr ⊢
        simp only at hr ⊢
        split at hr
        · rename_i h; rw [if_pos h]; exact ih _ _ _ r hr
        · cases hr
theorem impl_HaulPlan.mono : ∀ a0 k, LeO (impl_HaulPlan.f k a0) (impl_HaulPlan.f (k + 1) a0) := by
  intro a0 k
  unfold impl_HaulPlan.f
  exact LeO.bind (impl_HaulBalanced.mono _ _) (fun _ => LeO.ite (LeO.ite (impl_HaulPlan.mono_l _ _ _ _) (LeO.refl _)) (LeO.refl _))
theorem hp_info : (Try.prog.info? 65).map (fun i => (i.zero, i.size, i.bytes)) = some (some (.agg #[.int .i64 0, .int .i64 0]), 2, 16) := by kernel_rfl
def hpPut1.T : Bool × List (List Nat × List Nat) := (true, [([], []), ([], []), ([1], [1]), ([2], [2]), ([3], [3]), ([], []), ([5], [5]), ([4, 6], [4, 6]), ([0, 0, 1, 2, 3, 4, 5, 6, 7], [0]), ([8, 0, 1, 2, 3, 4, 5, 6, 7], [8]), ([9, 7, 7, 0, 1, 2, 3, 4, 5, 6, 7], [7, 9])])
def hpPut1.B : List Nat := [0, 0, 2, 6, 14, 0, 32, 126, 255, 511, 1023]
theorem hpPut1.tab : rtab .any (opsOf Try.f67 1) = hpPut1.T := by kernel_rfl
theorem hpPut1.bits : waitsOk hpPut1.T.2 hpPut1.B = true := by kernel_rfl
theorem hpPut1.both : rtab .any (opsOf Try.f67 1) = hpPut1.T ∧ waitsOk hpPut1.T.2 hpPut1.B = true := ⟨hpPut1.tab, hpPut1.bits⟩
set_option maxHeartbeats 4000000 in
set_option maxRecDepth 100000 in
/-- put: the item behind the others. -/
theorem hp_put (base : Nat) (w0 w : World) (q : Nat) (v : Value) (L : List S65) (xi xv : Int) (hL : L.length < 1000000) (hq : w.heap[q]? = some (.cells #[v] 76 (0, 0))) (hQ : k65.Q 65 w base (fun _ => True) v L) (hB : Below base w0 w) (hb : base ≤ q) :
    Calls Try.prog 67 #[.pointer (some ⟨q, 0, none⟩), .agg #[.int .i64 xi, .int .i64 xv]] w fun e w' => e = .returned (.tuple #[]) ∧ ∃ v', w'.heap[q]? = some (.cells #[v'] 76 (0, 0)) ∧ k65.Q 65 w' base (fun _ => True) v' (L ++ [⟨xi, xv⟩]) ∧ (v'.ownBlock = v.ownBlock ∨ ∃ b, v'.ownBlock = some b ∧ w.heap.size ≤ b) ∧ Kept w w' (fun k => k = q ∨ some k = v.ownBlock) ∧ Below base w0 w' := by
  have hlt := blk_lt hq
  have hne := Kd.Q_ne hQ hq (by decide)
  have HQ := Aside0.mk hq
  have HL := Aside0.mk hQ
  have HB := Aside0.mk hB
  have HE := Aside0.mk hne
  have HT := Aside0.mk hlt
  clear hq hQ hB hne
  go_enter Try.func67, Try.ntmps67
  go_wp2_with ((with_reducible refine gate_dst (N := 3) rfl ?_); refine box_event ?hg (N := 3) ?hd (cs := #[.int .i64 xi, .int .i64 xv]) (t := 65) ?hr ?_; (case hd => rfl); (case hg => rfl); (case hr => first | (go_simp; done) | (go_simp; rfl)); intro gb hg0 w1 hbk hbl; have hg := Aside0.mk hg0; clear hg0)

  have hq1 := (hbl.block q hlt).trans HQ.out
  have hQ1 := Kd.Q_elderB HL.out gb (by have := hg.out; omega)
  have hQ1 := Kd.Q_below hQ1 hbl
  have hB1 := HB.out.trans (hbl.mono (by omega))
  have hK1 : Kept w w1 (fun k => k = q ∨ some k = v.ownBlock) := Kept.of_below hbl _
  have hgq : gb ≠ q := by have := hg.out; omega
  have hgv : some gb ≠ v.ownBlock := fun e => by have := Kd.Q_lt HL.out gb e.symm; have := hg.out; omega
  refine start_ (n := 11) (S := fun w' => w'.cell? ⟨q, 0, none⟩ = some v ∧ w'.cell? ⟨gb, 0, none⟩ = some (.int .i64 xi) ∧ w'.cell? ⟨gb, 1, none⟩ = some (.int .i64 xv)) (ds := [7, 10]) #[false, false, false, false, false, false, false, false, false, false, false] (by kernel_rfl) rfl rfl ⟨(blk_cell hq1 0).trans rfl, (blk_cell hbk 0).trans rfl, (blk_cell hbk 1).trans rfl⟩ (fun hHeld => ?_)
  refine with_tabW hpPut1.both.1 hpPut1.both.2 (fun HT_ HW_ => ?_)
  replace hq1 := blk_drew hq1
  replace hbk := blk_drew hbk
  replace hQ1 := Kd.Q_drew hQ1
  replace hB1 := below_drew1 hB1
  replace hK1 := Kept.drew hK1
  generalize w1.drew = w2 at hq1 hbk hQ1 hB1 hK1 hHeld ⊢
  refine pure_ (i := 0) (N := some 4) (v := ?_) (a' := ?_) #[true, false, false, false, false, false, false, false, false, false, false] rfl rfl (any_of HT_.out (by kernel_rfl)) (fun _ _ _ h => h) (Or.inl ⟨by rfl, ?_⟩) ?_ ?_
  rotate_left
  · intro w'
    go_simp
    with_reducible rfl
  rotate_left
  · simp only [Act.put, List.setIfInBounds_toArray, List.set_cons_zero, List.set_cons_succ, i64_w, i32_w]
    rfl
  refine pure_ (i := 1) (N := some 5) (v := ?_) (a' := ?_) #[true, true, false, false, false, false, false, false, false, false, false] rfl rfl (any_of HT_.out (by kernel_rfl)) (fun _ _ _ h => h) (Or.inl ⟨by rfl, ?_⟩) ?_ ?_
  rotate_left
  · intro w'
    go_simp
    with_reducible rfl
  rotate_left
  · simp only [Act.put, List.setIfInBounds_toArray, List.set_cons_zero, List.set_cons_succ, i64_w, i32_w]
    rfl
  refine pure_ (i := 2) (N := some 6) (v := ?_) (a' := ?_) #[true, true, true, false, false, false, false, false, false, false, false] rfl rfl (any_of HT_.out (by kernel_rfl)) (fun _ _ _ h => h) (Or.inl ⟨by rfl, ?_⟩) ?_ ?_
  rotate_left
  · intro w'
    go_simp
    with_reducible rfl
  rotate_left
  · simp only [Act.put, List.setIfInBounds_toArray, List.set_cons_zero, List.set_cons_succ, i64_w, i32_w]
    rfl
  refine pure_ (i := 3) (N := some 7) (v := ?_) (a' := ?_) #[true, true, true, true, false, false, false, false, false, false, false] rfl rfl (any_of HT_.out (by kernel_rfl)) (fun _ _ _ h => h) (Or.inl ⟨by rfl, ?_⟩) ?_ ?_
  rotate_left
  · intro w'
    go_simp
    with_reducible rfl
  rotate_left
  · simp only [Act.put, List.setIfInBounds_toArray, List.set_cons_zero, List.set_cons_succ, i64_w, i32_w]
    rfl
  refine take_ (i := 4) (N := some 8) (v := ?_) (a' := ?_) #[true, true, true, true, true, false, false, false, false, false, false] rfl rfl (take_ofW HT_.out HW_.out (by kernel_rfl)) (fun _ _ _ h => h) (Or.inl ⟨by rfl, ?_⟩) hHeld ?_ ?_
  rotate_left
  · rintro w' ⟨s0, s1, s2⟩
    go_simp
    with_reducible rfl
  rotate_left
  · simp only [Act.put, List.setIfInBounds_toArray, List.set_cons_zero, List.set_cons_succ, i64_w, i32_w]
    rfl
  refine take_ (i := 5) (N := some 9) (v := ?_) (a' := ?_) #[true, true, true, true, true, true, false, false, false, false, false] rfl rfl (take_ofW HT_.out HW_.out (by kernel_rfl)) (fun _ _ _ h => h) (Or.inl ⟨by rfl, ?_⟩) hHeld ?_ ?_
  rotate_left
  · rintro w' ⟨s0, s1, s2⟩
    go_simp
    with_reducible rfl
  rotate_left
  · simp only [Act.put, List.setIfInBounds_toArray, List.set_cons_zero, List.set_cons_succ, i64_w, i32_w]
    rfl
  refine one_ (i := 6) (N := some 10) #[true, true, true, true, true, true, true, false, false, false, false] rfl rfl (one_of HT_.out (by kernel_rfl)) (by decide) (fun K hK => ?_)
  refine value_ (w1 := ?_) (v := ?_) (by rfl) rfl ?_ ?_
  rotate_left 2
  · go_simp
    first
      | done
      | (constructor <;> rfl)
      | rfl
  refine hK.out _ _ ⟨(blk_cell (blk_alloc hq1 _) 0).trans rfl, (blk_cell (blk_alloc hbk _) 0).trans rfl, (blk_cell (blk_alloc hbk _) 1).trans rfl⟩ (fun _ => ?_)
  clear hK K
  refine norm_ (a' := ?_) ?_ ?_
  rotate_left
  · show Act.put _ (some 10) _ = _
    simp only [Act.put, List.setIfInBounds_toArray, List.set_cons_zero, List.set_cons_succ, i64_w, i32_w]
    rfl
  refine last_ (i := 7) (N := some 11) #[true, true, true, true, true, true, true, true, false, false, false] rfl rfl (one_of HT_.out (by kernel_rfl)) (by decide) (fun K hK => ?_)
  refine Kd.Q_append_step k65 (w0 := w0) base (by rfl) (.tmp 8) (.tmp 10) 74 65 (.agg #[.int .i64 0, .int .i64 0]) 16 rfl Try.underlying74 hp_info rfl (by decide) (by omega) v L ⟨xi, xv⟩ [.int .i64 xi, .int .i64 xv] (fun k => True ∧ k ≠ gb) (fun _ => False) rfl rfl (k65_mkM _ _ _ ⟨xi, xv⟩) (fun _ hk => hk.elim) (fun k hk => ⟨trivial, by have := blk_lt hbk; omega⟩) hQ1 hB1 (by have := blk_lt hq1; omega) (by omega) ?_
  intro v1 w3 ho hb3 hg3 hat
  have hq3 := (hg3.block q (blk_lt hq1) HE.out).trans hq1
  have hK3 : Kept w w3 (fun k => k = q ∨ some k = v.ownBlock) := Kept.of_grown hg3 hK1 (fun k hk => .inl (.inr hk.symm))
  have hat3 : v1.ownBlock = v.ownBlock ∨ ∃ b, v1.ownBlock = some b ∧ w.heap.size ≤ b := by
    rcases hat with h | ⟨b, h, hle⟩
    · exact .inl h
    · exact .inr ⟨b, h, Nat.le_trans hK1.1 hle⟩
  replace ho := Kd.Q_mono (ok' := fun _ => True) ho (fun _ _ => trivial)
  obtain ⟨A1, c1, hv1, _⟩ := Kd.Q_slice ho
  rw [List.length_append, List.length_singleton] at hv1
  subst hv1
  refine hK.out _ _ ?_
  clear hK K hg3 hat hQ1 hB1 hK1 hq1 hbk hHeld
  refine norm_ (a' := ?_) ?_ ?_
  rotate_left
  · show Act.put _ (some 11) _ = _
    simp only [Act.put, List.setIfInBounds_toArray, List.set_cons_zero, List.set_cons_succ, i64_w, i32_w]
    rfl
  refine pure_ (i := 8) (N := some 12) (v := ?_) (a' := ?_) #[true, true, true, true, true, true, true, true, true, false, false] rfl rfl (any_of HT_.out (by kernel_rfl)) (fun _ _ _ h => h) (Or.inl ⟨by rfl, ?_⟩) ?_ ?_
  rotate_left
  · intro w'
    go_simp
    with_reducible rfl
  rotate_left
  · simp only [Act.put, List.setIfInBounds_toArray, List.set_cons_zero, List.set_cons_succ, i64_w, i32_w]
    rfl
  refine pure_ (i := 9) (N := some 13) (v := ?_) (a' := ?_) #[true, true, true, true, true, true, true, true, true, true, false] rfl rfl (any_of HT_.out (by kernel_rfl)) (fun _ _ _ h => h) (Or.inl ⟨by rfl, ?_⟩) ?_ ?_
  rotate_left
  · intro w'
    go_simp
    with_reducible rfl
  rotate_left
  · simp only [Act.put, List.setIfInBounds_toArray, List.set_cons_zero, List.set_cons_succ, i64_w, i32_w]
    rfl
  refine last_ (i := 10) (N := none) #[true, true, true, true, true, true, true, true, true, true, true] rfl rfl (one_of HT_.out (by kernel_rfl)) (by decide) (fun K hK => ?_)
  refine skip_ (w1 := ?_) (by rfl) rfl ?_ ?_
  rotate_left
  · have hc3 := blk_cell hq3 0
    have hf3 := blk_frozen hq3 0
    go_simp
    rfl
  refine hK.out _ _ ?_
  clear hK K
  refine done_ (done_of HT_.out (by kernel_rfl)) ?_
  refine bodyPost_end (v := .tuple #[]) (by simp [results, (rfl : Try.f67.results = #[])]) rfl ⟨rfl, _, blk_put hq3 0 _ rfl, Kd.Q_set ho hq3 (by decide) 0 _, hat3, hK3.setCell (.inl (.inl rfl)) _, hb3.setCell ?_ _⟩
  omega
theorem hp_only {w : World} {base : Nat} {ok ok' : Nat → Prop} {v : Value} {L : List S65} (h : k65.Q 65 w base ok v L) (hok : ∀ k, v.ownBlock = some k → ok' k) : k65.Q 65 w base ok' v L := by
  obtain ⟨_, inner, ho, hr⟩ := h
  exact ⟨hok, inner, ho, hr.imp_ (fun x cs hx => by rw [k65_openM hx]; exact k65_mkM _ _ _ x)⟩
/-- Two queues that lie apart. -/
structure HpQ (w : World) (base q1 q2 : Nat) (v1 v2 : Value) (H M : List S65) : Prop where
  a : w.heap[q1]? = some (.cells #[v1] 76 (0, 0))
  b : w.heap[q2]? = some (.cells #[v2] 76 (0, 0))
  c : k65.Q 65 w base (fun _ => True) v1 H
  d : k65.Q 65 w base (fun _ => True) v2 M
  e : NeRow v1 v2
  f : base ≤ q1
  g : base ≤ q2
  n : q1 ≠ q2
theorem HpQ.swap {w : World} {base q1 q2 : Nat} {v1 v2 : Value} {H M : List S65} (h : HpQ w base q1 q2 v1 v2 H M) : HpQ w base q2 q1 v2 v1 M H := ⟨h.b, h.a, h.d, h.c, ne_symm h.e, h.g, h.f, h.n.symm⟩
theorem HpQ.step {w w' : World} {base q1 q2 : Nat} {v1 v2 v' : Value} {H M H' : List S65} (h : HpQ w base q1 q2 v1 v2 H M) (hK : Kept w w' (fun k => k = q1 ∨ some k = v1.ownBlock))
    (ha : w'.heap[q1]? = some (.cells #[v'] 76 (0, 0))) (hc : k65.Q 65 w' base (fun _ => True) v' H') (hat : v'.ownBlock = v1.ownBlock ∨ ∃ b, v'.ownBlock = some b ∧ w.heap.size ≤ b) : HpQ w' base q1 q2 v' v2 H' M := by
  have hne := Kd.Q_ne h.c h.b (by decide)
  refine ⟨ha, (hK.2 q2 (blk_lt h.b) (fun hx => hx.elim (fun e => h.n e.symm) hne)).trans h.b, hc, ?_, fun k hk hk2 => ?_, h.f, h.g, h.n⟩
  · refine hp_only (Kd.Q_kept (hp_only (ok' := fun k => v2.ownBlock = some k) h.d (fun k hk => hk)) hK (fun k hk hx => ?_)) (fun _ _ => trivial)
    rcases hx with rfl | hx
    · exact Kd.Q_ne h.d h.a (by decide) hk.symm
    · exact h.e k hx.symm hk
  · rcases hat with e | ⟨b, e, hle⟩
    · exact h.e k (e ▸ hk) hk2
    · have := Kd.Q_lt h.d k hk2
      rw [e] at hk
      injection hk with hk
      omega
/-- Any step that writes neither of both. -/
theorem HpQ.far {w w' : World} {base q1 q2 : Nat} {v1 v2 : Value} {H M : List S65} {S : Nat → Prop} (h : HpQ w base q1 q2 v1 v2 H M) (hK : Kept w w' S) (hS : ∀ k, S k → ∃ cells t, w.heap[k]? = some (.cells cells t (0, 0)) ∧ t ≠ 76 ∧ t ≠ 65) : HpQ w' base q1 q2 v1 v2 H M := by
  have hq : ∀ (q : Nat) (v : Value), w.heap[q]? = some (Obj.cells #[v] 76 (0, 0)) → w'.heap[q]? = some (Obj.cells #[v] 76 (0, 0)) := by
    intro q v hq
    refine (hK.2 q (blk_lt hq) (fun hx => ?_)).trans hq
    obtain ⟨cells, t, hc, h1, _⟩ := hS q hx
    rw [hq] at hc
    injection hc with hc
    injection hc with _ hc
    exact h1 hc.symm
  have hr : ∀ v L, k65.Q 65 w base (fun _ => True) v L → k65.Q 65 w' base (fun _ => True) v L := by
    intro v L hL
    refine hp_only (Kd.Q_kept (hp_only (ok' := fun k => v.ownBlock = some k) hL (fun k hk => hk)) hK (fun k hk hx => ?_)) (fun _ _ => trivial)
    obtain ⟨cells, t, hc, _, h1⟩ := hS k hx
    obtain ⟨cells', hc'⟩ := Kd.Q_typed hL k hk
    rw [hc] at hc'
    injection hc' with hc'
    injection hc' with _ hc'
    exact h1 hc'
  exact ⟨hq _ _ h.a, hq _ _ h.b, hr _ _ h.c, hr _ _ h.d, h.e, h.f, h.g, h.n⟩
theorem HpQ.drew {w : World} {base q1 q2 : Nat} {v1 v2 : Value} {H M : List S65} (h : HpQ w base q1 q2 v1 v2 H M) : HpQ w.drew base q1 q2 v1 v2 H M := ⟨blk_drew h.a, blk_drew h.b, Kd.Q_drew h.c, Kd.Q_drew h.d, h.e, h.f, h.g, h.n⟩
/-- What lies in front. -/
theorem hp_front {w : World} {base : Nat} {v : Value} {x : S65} {L : List S65} (h : k65.Q 65 w base (fun _ => True) v (x :: L)) :
    ∃ A o c, v = .slice (some ⟨A, o, none⟩) (L.length + 1) c ∧ base ≤ A ∧ w.cell? ⟨A, o, none⟩ = some (.int .i64 x.f0) ∧ w.cell? ⟨A, o + 1, none⟩ = some (.int .i64 x.f1) ∧ w.frozen? ⟨A, o + 1, none⟩ = false ∧
      ∀ y, k65.Q 65 (w.setCell ⟨A, o + 1, none⟩ (.int .i64 y)) base (fun _ => True) v (⟨x.f0, y⟩ :: L) := by
  obtain ⟨A, o, c, e, hb, _⟩ := Kd.Q_form h (by simp)
  rw [List.length_cons] at e
  subst e
  obtain ⟨cs, hl, hM, hc, hf⟩ := Kd.Q_elem h z65 0 (by omega) (by push_cast; omega)
  have hM' := k65_openM hM
  simp only [Int.toNat_zero, List.getD_cons_zero] at hM'
  subst hM'
  have c0 := hc 0 _ rfl
  have c1 := hc 1 _ rfl
  have f1 := hf 1
  simp only [Int.toNat_zero, Nat.zero_mul, Nat.add_zero] at c0 c1 f1
  refine ⟨A, o, c, rfl, hb, c0, c1, f1, fun y => ?_⟩
  have hs := (Kd.Q_seg (okp := fun _ => False) h 0 (by omega) (by push_cast; omega) (seg := [.int .i64 y]) (j := 1) hl hc (by show 1 + 1 ≤ 2; omega) (x' := ⟨x.f0, y⟩) (k65_mkM _ _ _ ⟨x.f0, y⟩) (fun _ hk => hk.elim)).1
  simpa only [Int.toNat_zero, Nat.zero_mul, Nat.add_zero, List.set_cons_zero, World.setCells] using hs
theorem hp_empty (q : Nat) (a : Option Addr) (n c : Nat) (w : World) (h : w.cell? ⟨q, 0, none⟩ = some (.slice a n c)) : Calls Try.prog 59 #[.pointer (some ⟨q, 0, none⟩)] w fun e w' => e = .returned (.bool (decide ((n : Int) = 0))) ∧ w' = w := by
  go_enter Try.func59, Try.ntmps59
  go_wp2
  go_ret
  exact ⟨rfl, rfl⟩
theorem hp_frontC (q A o n c : Nat) (hn : 0 < n) (w : World) (h : w.cell? ⟨q, 0, none⟩ = some (.slice (some ⟨A, o, none⟩) n c)) : Calls Try.prog 60 #[.pointer (some ⟨q, 0, none⟩)] w fun e w' => e = .returned (.pointer (some ⟨A, o, none⟩)) ∧ w' = w := by
  go_enter Try.func60, Try.ntmps60
  go_wp2
  go_ret
  exact ⟨rfl, rfl⟩
theorem hp_dropC (q A o n c : Nat) (hn : 0 < n) (hc : n ≤ c) (w : World) (h : w.cell? ⟨q, 0, none⟩ = some (.slice (some ⟨A, o, none⟩) n c)) (hf : w.frozen? ⟨q, 0, none⟩ = false) : Calls Try.prog 61 #[.pointer (some ⟨q, 0, none⟩)] w fun e w' => e = .returned (.tuple #[]) ∧ w' = w.setCell ⟨q, 0, none⟩ (.slice (some ⟨A, if c = 1 then o else o + 2, none⟩) (n - 1) (c - 1)) := by
  by_cases h1 : c = 1
  · subst h1
    have hn1 : n = 1 := by omega
    subst hn1
    go_enter Try.func61, Try.ntmps61
    go_wp2
    all_goals first
      | exact bodyPost_end (v := .tuple #[]) (by simp [results, (rfl : Try.f61.results = #[])]) rfl ⟨rfl, by simp⟩
      | (exfalso; omega)
  · go_enter Try.func61, Try.ntmps61
    go_wp2
    all_goals first
      | exact bodyPost_end (v := .tuple #[]) (by simp [results, (rfl : Try.f61.results = #[])]) rfl ⟨rfl, by first | rfl | simp [h1]⟩
      | (exfalso; omega)
/-- drop, of two queues' first. -/
theorem hp_drop (w0 w : World) (base q1 q2 : Nat) (v1 v2 : Value) (x : S65) (H M : List S65) (h : HpQ w base q1 q2 v1 v2 (x :: H) M) (hB : Below base w0 w) : Calls Try.prog 61 #[.pointer (some ⟨q1, 0, none⟩)] w fun e w' => e = .returned (.tuple #[]) ∧ ∃ v', HpQ w' base q1 q2 v' v2 H M ∧ v'.ownBlock = v1.ownBlock ∧ Kept w w' (fun k => k = q1) ∧ Below base w0 w' := by
  obtain ⟨A, o, c, rfl, _, _⟩ := hp_front h.c
  have hle := (Kd.Q_reads' h.c).2.1
  refine (hp_dropC q1 A o (H.length + 1) c (by omega) hle w ((blk_cell h.a 0).trans rfl) (blk_frozen h.a 0)).mono ?_
  rintro e w' ⟨rfl, rfl⟩
  have hQ := Kd.Q_drop (k := 1) h.c (by simp)
  have he : (if c = 1 then (some ⟨A, o, none⟩ : Option Addr) else (some ⟨A, o, none⟩ : Option Addr).map (·.add (1 * k65.sz))) = some ⟨A, if c = 1 then o else o + 2, none⟩ := by
    split
    · rfl
    · rfl
  rw [he] at hQ
  simp only [List.drop_succ_cons, List.drop_zero, Nat.add_sub_cancel] at hQ
  have hK : Kept w (w.setCell ⟨q1, 0, none⟩ (.slice (some ⟨A, if c = 1 then o else o + 2, none⟩) H.length (c - 1))) (fun k => k = q1) := Kept.setCell (S := fun k => k = q1) (Kept.refl w _) (.inl rfl) _
  refine ⟨rfl, .slice (some ⟨A, if c = 1 then o else o + 2, none⟩) H.length (c - 1), h.step (hK.mono (fun k hk => .inl hk)) (blk_put h.a 0 _ rfl) (Kd.Q_set hQ h.a (by decide) 0 _) (.inl rfl), rfl, hK, hB.setCell h.f _⟩
theorem hpHave_snoc (x : Int) (l : List Int) : ∀ j, hpHave j (l ++ [x]) = hpHave j l ++ (if x > 0 then [⟨j + l.length, x⟩] else []) := by
  induction l with
  | nil => intro j; simp [hpHave]
  | cons y l ih =>
    intro j
    simp only [List.cons_append, hpHave, ih, List.length_cons]
    rw [List.append_assoc]
    have : j + 1 + (l.length : Int) = j + ((l.length + 1 : Nat) : Int) := by push_cast; omega
    rw [this]
theorem hpMiss_snoc (x : Int) (l : List Int) : ∀ j, hpMiss j (l ++ [x]) = hpMiss j l ++ (if x < 0 then [⟨j + l.length, wrap64 (-x)⟩] else []) := by
  induction l with
  | nil => intro j; simp [hpMiss]
  | cons y l ih =>
    intro j
    simp only [List.cons_append, hpMiss, ih, List.length_cons]
    rw [List.append_assoc]
    have : j + 1 + (l.length : Int) = j + ((l.length + 1 : Nat) : Int) := by push_cast; omega
    rw [this]
theorem hpHave_length (l : List Int) : ∀ j, (hpHave j l).length ≤ l.length := by
  induction l with
  | nil => intro j; simp [hpHave]
  | cons y l ih => intro j; have := ih (j + 1); simp only [hpHave, List.length_append, List.length_cons]; split <;> simp <;> omega
theorem hpMiss_length (l : List Int) : ∀ j, (hpMiss j l).length ≤ l.length := by
  induction l with
  | nil => intro j; simp [hpMiss]
  | cons y l ih => intro j; have := ih (j + 1); simp only [hpMiss, List.length_append, List.length_cons]; split <;> simp <;> omega
set_option maxHeartbeats 4000000 in
set_option maxRecDepth 100000 in
/-- The two queues of a list. -/
theorem hp_piles (A0 : Option Addr) (c0 : Nat) (l0 : List Int) (w : World) (hr0 : Kd.C (Kd.int .i64) w A0 l0.length l0) (hc0 : l0.length ≤ c0) (hl : l0.length < 1000000) :
    Calls Try.prog 58 #[.slice A0 l0.length c0] w fun e w' => ∃ q1 q2 v1 v2, e = .returned (.tuple #[.pointer (some ⟨q1, 0, none⟩), .pointer (some ⟨q2, 0, none⟩)]) ∧ HpQ w' w.heap.size q1 q2 v1 v2 (hpHave 0 l0) (hpMiss 0 l0) ∧ Below w.heap.size w w' := by
  have HR := Aside0.mk hr0
  have HL := Aside0.mk hl
  clear hr0 hl
  go_enter Try.func58, Try.ntmps58
  go_wp2_with (first | ((with_reducible refine gate_dst (N := 9) rfl ?_); refine box_event ?hg (N := 9) ?hd (cs := #[.slice none 0 0]) (t := 76) ?hr ?_; (case hd => rfl); (case hg => rfl); (case hr => first | (go_simp; done) | (go_simp; rfl)); intro q1 h1_ w1 b1 l1; have G1 := Aside0.mk h1_; clear h1_) | ((with_reducible refine gate_dst (N := 11) rfl ?_); refine box_event ?hg (N := 11) ?hd (cs := #[.slice none 0 0]) (t := 76) ?hr ?_; (case hd => rfl); (case hg => rfl); (case hr => first | (go_simp; done) | (go_simp; rfl)); intro q2 h2_ w2 b2 l2; have G2 := Aside0.mk h2_; clear h2_))
  have two : HpQ w2 w.heap.size q1 q2 (.slice none 0 0) (.slice none 0 0) (hpHave 0 (l0.take 0)) (hpMiss 0 (l0.take 0)) := by
    have g1 := G1.out
    have g2 := G2.out
    have s1 := l1.size
    have hb1 := blk_lt b1
    exact ⟨(l2.block q1 hb1).trans b1, b2, Kd.Q_nil _ _ _ _ _, Kd.Q_nil _ _ _ _ _, ne_nil _, by omega, by omega, by omega⟩
  have hB : Below w.heap.size w w2 := l1.trans (l2.mono l1.size)
  clear G1 G2 b1 b2 l1 l2
  go_loopg [14] l0.length (fun kq v14 wr => ∃ (i : Nat) (v1 v2 : Value), v14 = .int .i64 (i : Int) ∧ Aside0 (i + kq = l0.length) ∧ Aside0 (HpQ wr w.heap.size q1 q2 v1 v2 (hpHave 0 (l0.take i)) (hpMiss 0 (l0.take i))) ∧ Aside0 (Below w.heap.size w wr))
  case atStart => exact ⟨0, _, _, rfl, ⟨by omega⟩, ⟨two⟩, ⟨hB⟩⟩
  case round =>
    clear two hB
    obtain ⟨i, v1, v2, rfl, HI, H2, HB⟩ := hrel
    have hi := HI.out
    by_cases hlt : i < l0.length
    · cases gk with
      | zero => exfalso; omega
      | succ gk =>
        obtain ⟨ad, e, hx⟩ := Kd.at_int HR.out (i : Int) (by omega) (by omega)
        cases e
        replace hx := (HB.out.cell (World.block_lt_of_cell? w _ hx)).trans hx
        have hrd : rd l0 (i : Int) = l0[i] := by unfold rd; simp [List.getD_eq_getElem?_getD, hlt]
        rw [hrd] at hx
        rw [Int.toNat_natCast] at hx
        have hh := hpHave_snoc l0[i] (l0.take i) 0
        have hm := hpMiss_snoc l0[i] (l0.take i) 0
        rw [← List.take_succ_eq_append_getElem hlt, List.length_take, Nat.min_eq_left (Nat.le_of_lt hlt), Int.zero_add] at hh hm
        have L1 := hpHave_length (l0.take i) 0
        have L2 := hpMiss_length (l0.take i) 0
        rw [List.length_take, Nat.min_eq_left (Nat.le_of_lt hlt)] at L1 L2
        have hl := HL.out
        generalize l0[i] = x at hx hh hm
        have hd1 : decide ((i : Int) < (l0.length : Int)) = true := decide_eq_true (by omega)
        have hd2 : ((i : Int) < (l0.length : Int)) = True := eq_true (by omega)
        have hd3 : ((0 : Int) ≤ (i : Int)) = True := eq_true (by omega)
        have hwr : IntKind.i64.wrap ((i : Int) + 1) = ((i + 1 : Nat) : Int) := by rw [IntKind.wrap_i64]; push_cast; omega
        rcases Int.lt_trichotomy x 0 with hx0 | hx0 | hx0
        · have e1 : decide (x > 0) = false := decide_eq_false (by omega)
          have e2 : decide (x < 0) = true := decide_eq_true hx0
          rw [if_neg (by omega), List.append_nil] at hh
          rw [if_pos hx0] at hm
          have P : Calls Try.prog 67 #[.pointer (some ⟨q2, 0, none⟩), .agg #[.int .i64 (i : Int), .int .i64 (wrap64 (-x))]] wr fun e w' => e = .returned (.tuple #[]) ∧ (∃ v', HpQ w' w.heap.size q1 q2 v1 v' (hpHave 0 (l0.take (i + 1))) (hpMiss 0 (l0.take (i + 1)))) ∧ Below w.heap.size w w' := by
            refine (hp_put w.heap.size w wr q2 v2 (hpMiss 0 (l0.take i)) i (wrap64 (-x)) (by omega) H2.out.b H2.out.d HB.out H2.out.g).mono ?_
            rintro e w' ⟨rfl, v', ha, hQ, hat, hK, hb⟩
            refine ⟨rfl, ⟨v', ?_⟩, hb⟩
            rw [hh, hm]
            exact (H2.out.swap.step hK ha hQ hat).swap
          have PP := Aside0.mk P
          clear P
          go_wp2_with (go_at_call 67; (with_reducible refine PP.out.mono ?_); rintro e w' ⟨rfl, ⟨v', h2⟩, hb⟩; have H3 := Aside0.mk h2; have HB3 := Aside0.mk hb; clear h2 hb)
          go_roundg gk
          case measure => omega
          case rel => exact ⟨i + 1, v1, v', by first | rfl | rw [hwr], ⟨by omega⟩, H3, HB3⟩
        · subst hx0
          rw [if_neg (by omega), List.append_nil] at hh hm
          have h2 := H2.out
          rw [← hh, ← hm] at h2
          have H3 := Aside0.mk h2
          clear h2
          go_wp2_with fail
          go_roundg gk
          case measure => omega
          case rel => exact ⟨i + 1, v1, v2, by first | rfl | rw [hwr], ⟨by omega⟩, H3, HB⟩
        · have e1 : decide (x > 0) = true := decide_eq_true hx0
          have e2 : decide (x < 0) = false := decide_eq_false (by omega)
          rw [if_pos hx0] at hh
          rw [if_neg (by omega), List.append_nil] at hm
          have P : Calls Try.prog 67 #[.pointer (some ⟨q1, 0, none⟩), .agg #[.int .i64 (i : Int), .int .i64 x]] wr fun e w' => e = .returned (.tuple #[]) ∧ (∃ v', HpQ w' w.heap.size q1 q2 v' v2 (hpHave 0 (l0.take (i + 1))) (hpMiss 0 (l0.take (i + 1)))) ∧ Below w.heap.size w w' := by
            refine (hp_put w.heap.size w wr q1 v1 (hpHave 0 (l0.take i)) i x (by omega) H2.out.a H2.out.c HB.out H2.out.f).mono ?_
            rintro e w' ⟨rfl, v', ha, hQ, hat, hK, hb⟩
            refine ⟨rfl, ⟨v', ?_⟩, hb⟩
            rw [hh, hm]
            exact H2.out.step hK ha hQ hat
          have PP := Aside0.mk P
          clear P
          go_wp2_with (go_at_call 67; (with_reducible refine PP.out.mono ?_); rintro e w' ⟨rfl, ⟨v', h2⟩, hb⟩; have H3 := Aside0.mk h2; have HB3 := Aside0.mk hb; clear h2 hb)
          go_roundg gk
          case measure => omega
          case rel => exact ⟨i + 1, v', v2, by first | rfl | rw [hwr], ⟨by omega⟩, H3, HB3⟩
    · have hie : i = l0.length := by omega
      have hd1 : decide ((i : Int) < (l0.length : Int)) = false := decide_eq_false (by omega)
      have h2 := H2.out
      rw [hie, List.take_length] at h2
      have H3 := Aside0.mk h2
      clear h2 hlt
      go_wp2
      go_ret2
      exact ⟨q1, q2, v1, v2, rfl, H3.out, HB.out⟩

def hpR7.T : Bool × List (List Nat × List Nat) := (true, [([], []), ([0], [0]), ([1], [1]), ([2], [2]), ([], []), ([4], [4]), ([5], [5]), ([6], [6]), ([3, 7], [3, 7]), ([8, 0, 1, 2, 3, 4, 5, 6, 7, 8], [8])])
def hpR7.B : List Nat := [0, 1, 3, 7, 0, 16, 48, 112, 255, 511]
theorem hpR7.tab : rtab .any (opsOf Try.f37 7) = hpR7.T := by kernel_rfl
theorem hpR7.bits : waitsOk hpR7.T.2 hpR7.B = true := by kernel_rfl
theorem hpR7.both : rtab .any (opsOf Try.f37 7) = hpR7.T ∧ waitsOk hpR7.T.2 hpR7.B = true := ⟨hpR7.tab, hpR7.bits⟩
def hpR8.T : Bool × List (List Nat × List Nat) := (true, [([], []), ([], []), ([1], [1]), ([2], [2]), ([3], [3]), ([], []), ([5], [5]), ([6], [6]), ([7], [7]), ([], []), ([4, 8, 9], [4, 8, 9]), ([10], [10]), ([0, 11], [0, 11]), ([12, 12, 0, 1, 2, 3, 4, 5, 6, 7, 8, 9, 10, 11, 12], [0, 12])])
def hpR8.B : List Nat := [0, 0, 2, 6, 14, 0, 32, 96, 224, 0, 1022, 2046, 4095, 8191]
theorem hpR8.tab : rtab .any (opsOf Try.f37 8) = hpR8.T := by kernel_rfl
theorem hpR8.bits : waitsOk hpR8.T.2 hpR8.B = true := by kernel_rfl
theorem hpR8.both : rtab .any (opsOf Try.f37 8) = hpR8.T ∧ waitsOk hpR8.T.2 hpR8.B = true := ⟨hpR8.tab, hpR8.bits⟩
theorem HpQ.lower {w : World} {base base' q1 q2 : Nat} {v1 v2 : Value} {H M : List S65} (h : HpQ w base q1 q2 v1 v2 H M) (hb : base' ≤ base) : HpQ w base' q1 q2 v1 v2 H M := ⟨h.a, h.b, Kd.Q_lower h.c hb, Kd.Q_lower h.d hb, h.e, Nat.le_trans hb h.f, Nat.le_trans hb h.g, h.n⟩
theorem hp_row {w w' : World} {base : Nat} {v : Value} {out : List S47} {S : Nat → Prop} (hR : k47.R 47 w base (fun _ => True) v out) (hK : Kept w w' S) (hS : ∀ k, S k → ∃ cells t, w.heap[k]? = some (.cells cells t (0, 0)) ∧ t ≠ 47) : k47.R 47 w' base (fun _ => True) v out := by
  have hty := Kd.R_typed hR
  obtain ⟨_, inner, ho, hr⟩ := hR
  have h1 : k47.R 47 w base (fun k => v.ownBlock = some k) v out := ⟨fun k hk => hk, inner, ho, hr.imp_ (fun x cs hx => by rw [k47_openM hx]; exact k47_mkM _ _ _ x)⟩
  refine Kd.R_mono (Kd.R_kept h1 hK (fun k hk hx => ?_)) (fun _ _ => trivial)
  obtain ⟨cells, t, hc, hn⟩ := hS k hx
  obtain ⟨cells', hc'⟩ := hty k hk
  rw [hc] at hc'
  injection hc' with hc'
  injection hc' with _ hc'
  exact hn hc'
theorem hp_emptyT (q : Nat) (v : Value) (w : World) (base : Nat) (h : w.heap[q]? = some (.cells #[v] 76 (0, 0))) (hQ : k65.Q 65 w base (fun _ => True) v []) : Calls Try.prog 59 #[.pointer (some ⟨q, 0, none⟩)] w fun e w' => e = .returned (.bool true) ∧ w' = w := by
  obtain ⟨A, c, rfl, _⟩ := Kd.Q_slice hQ
  exact (hp_empty q A 0 c w ((blk_cell h 0).trans rfl)).mono (by rintro e w' ⟨rfl, rfl⟩; exact ⟨rfl, rfl⟩)
theorem hp_emptyF (q : Nat) (v : Value) (w : World) (base : Nat) (x : S65) (L : List S65) (h : w.heap[q]? = some (.cells #[v] 76 (0, 0))) (hQ : k65.Q 65 w base (fun _ => True) v (x :: L)) : Calls Try.prog 59 #[.pointer (some ⟨q, 0, none⟩)] w fun e w' => e = .returned (.bool false) ∧ w' = w := by
  obtain ⟨A, c, rfl, _⟩ := Kd.Q_slice hQ
  refine (hp_empty q A (L.length + 1) c w ((blk_cell h 0).trans rfl)).mono ?_
  rintro e w' ⟨rfl, rfl⟩
  exact ⟨by rw [decide_eq_false (by omega)], rfl⟩
set_option maxHeartbeats 8000000 in
set_option maxRecDepth 100000 in
theorem impl_HaulPlan.calls (k : Nat) (A0 : Option Addr) (c0 : Nat) (l0 : List Int) (r1 : List S47) (r2 : Bool) (w : World) (hr0 : Kd.C (Kd.int .i64) w A0 l0.length l0) (hc0 : l0.length ≤ c0) (h : impl_HaulPlan.f k l0 = some (r1, r2)) :
    Calls Try.prog 37 #[.slice A0 l0.length c0] w fun e w' => ∃ v0_ : Value, e = .returned (.tuple #[v0_, .bool r2]) ∧ Kd.R k47 47 w' w.heap.size (fun _ => True) v0_ r1 ∧ Below w.heap.size w w' := by
  have HR := Aside0.mk hr0
  have HC := Aside0.mk hc0
  clear hr0 hc0
  unfold impl_HaulPlan.f at h
  obtain ⟨t, ht, h⟩ := Option.bind_eq_some_iff.1 h
  have HV := Aside0.mk ht
  clear ht
  cases t with
  | false =>
    simp only [Bool.false_eq_true, if_false, Option.some.injEq, Prod.mk.injEq] at h
    obtain ⟨rfl, rfl⟩ := h
    go_enter Try.func37, Try.ntmps37
    go_wp2_with (first | (go_at_call 17; (with_reducible refine (impl_HaulBalanced.calls k _ _ l0 false _ HR.out HC.out HV.out).mono ?_); rintro e w1 ⟨rfl, hb1⟩; have HB1 := Aside0.mk hb1; clear hb1) | ((with_reducible refine gate_dst (N := 13) rfl ?_); refine Kd.R_lit k47 _ 47 ?hg (N := 13) ?hd (xs := ([] : List S47)) (inner := []) (ok := fun _ => True) (okp := fun _ => True) ?hr ?hp (fun _ hk => hk) trivial (Below.refl _ _) (Nat.le_refl _) (by simp) ?_; (case hd => rfl); (case hg => rfl); (case hr => first | (go_simp; done) | (go_simp; rfl)); (case hp => exact (Reps.none _ _)); intro v4 w2 ho_ hb_ hg_ hnew_; clear hg_ hnew_; have HO := Aside0.mk (Kd.R_lower ho_ HB1.out.size); have HB2 := Aside0.mk (HB1.out.trans (hb_.mono HB1.out.size)); have HL2 := Aside0.mk hb_; clear ho_ hb_))
    go_ret2
    exact ⟨_, rfl, HO.out, HB2.out⟩
  | true =>
    simp only [if_true] at h
    by_cases hl : l0.length < 1000000
    · rw [if_pos hl] at h
      have HL := Aside0.mk hl
      have H := Aside0.mk h
      clear h hl
      go_enter Try.func37, Try.ntmps37
      go_wp2_with (first | (go_at_call 17; (with_reducible refine (impl_HaulBalanced.calls k _ _ l0 true _ HR.out HC.out HV.out).mono ?_); rintro e w1 ⟨rfl, hb1⟩; have HB1 := Aside0.mk hb1; clear hb1) | ((with_reducible refine gate_dst (N := 14) rfl ?_); refine Kd.R_lit k47 _ 47 ?hg (N := 14) ?hd (xs := ([] : List S47)) (inner := []) (ok := fun _ => True) (okp := fun _ => True) ?hr ?hp (fun _ hk => hk) trivial (Below.refl _ _) (Nat.le_refl _) (by simp) ?_; (case hd => rfl); (case hg => rfl); (case hr => first | (go_simp; done) | (go_simp; rfl)); (case hp => exact (Reps.none _ _)); intro v4 w2 ho_ hb_ hg_ hnew_; clear hg_ hnew_; have HO := Aside0.mk (Kd.R_lower ho_ HB1.out.size); have HB2 := Aside0.mk (HB1.out.trans (hb_.mono HB1.out.size)); have HL2 := Aside0.mk hb_; clear ho_ hb_) | (go_at_call 58; (with_reducible refine (hp_piles A0 c0 l0 _ (Kd.C_below HR.out HB2.out) HC.out HL.out).mono ?_); rintro e w3 ⟨q1, q2, v1, v2, rfl, hq, hb⟩; have H3 := Aside0.mk (hq.lower HB2.out.size); have HB3 := Aside0.mk (HB2.out.trans (hb.mono HB2.out.size)); have HO3 := Aside0.mk (Kd.R_below HO.out hb); clear hq hb HO))
      go_loopg [4] k (fun kq v4 wr => ∃ (out : List S47) (L1 L2 : List S65) (v1 v2 : Value), Aside0 (impl_HaulPlan.l0 kq out L1 L2 = some (r1, r2)) ∧ Aside0 (kq ≤ k) ∧ Aside0 (Kd.R k47 47 wr w.heap.size (fun _ => True) v4 out) ∧ Aside0 (HpQ wr w.heap.size q1 q2 v1 v2 L1 L2) ∧ Aside0 (Below w.heap.size w wr))
      case atStart => exact ⟨[], _, _, v1, v2, H, ⟨Nat.le_refl _⟩, HO3, H3, HB3⟩
      case round =>
        clear H H3 HB3 HO3 HB2 HB1 HL2
        obtain ⟨out, L1, L2, v1, v2, HA, HK, HO, H2, HB⟩ := hrel
        cases gk with
        | zero => exact absurd HA.out (by simp [impl_HaulPlan.l0])
        | succ k1 =>
          cases L1 with
          | nil =>
            have h := HA.out
            unfold impl_HaulPlan.l0 at h
            simp only [Option.some.injEq, Prod.mk.injEq] at h
            obtain ⟨rfl, rfl⟩ := h
            go_wp2_with (go_at_call 59; (with_reducible refine (hp_emptyT q1 v1 _ _ H2.out.a H2.out.c).mono ?_); rintro e w' ⟨rfl, rfl⟩)
            go_ret2
            exact ⟨_, rfl, HO.out, HB.out⟩
          | cons a L1 =>
            cases L2 with
            | nil =>
              have h := HA.out
              unfold impl_HaulPlan.l0 at h
              simp only [Option.some.injEq, Prod.mk.injEq] at h
              obtain ⟨rfl, rfl⟩ := h
              go_wp2_with (first | (go_at_call 59; (with_reducible refine (hp_emptyF q1 v1 _ _ _ _ H2.out.a H2.out.c).mono ?_); rintro e w' ⟨rfl, rfl⟩) | (go_at_call 59; (with_reducible refine (hp_emptyT q2 v2 _ _ H2.out.b H2.out.d).mono ?_); rintro e w' ⟨rfl, rfl⟩))
              go_ret2
              exact ⟨_, rfl, HO.out, HB.out⟩
            | cons b L2 =>
              have h := HA.out
              unfold impl_HaulPlan.l0 at h
              simp only at h
              by_cases hlen : out.length < 1000000
              · rw [if_pos hlen] at h
                have HN := Aside0.mk h
                clear h HA
                obtain ⟨A1, o1, c1, e1, hA1, x0, x1, fx, _⟩ := hp_front H2.out.c
                obtain ⟨A2, o2, c2, e2, hA2, y0, y1, fy, _⟩ := hp_front H2.out.d
                subst e1 e2
                go_wp2_with (first | (go_at_call 59; (with_reducible refine (hp_emptyF q1 _ _ _ _ _ H2.out.a H2.out.c).mono ?_); rintro e w' ⟨rfl, rfl⟩) | (go_at_call 59; (with_reducible refine (hp_emptyF q2 _ _ _ _ _ H2.out.b H2.out.d).mono ?_); rintro e w' ⟨rfl, rfl⟩) | (go_at_call 60; (with_reducible refine (hp_frontC q1 A1 o1 (L1.length + 1) c1 (by omega) _ ((blk_cell H2.out.a 0).trans rfl)).mono ?_); rintro e w' ⟨rfl, rfl⟩) | (go_at_call 60; (with_reducible refine (hp_frontC q2 A2 o2 (L2.length + 1) c2 (by omega) _ ((blk_cell H2.out.b 0).trans rfl)).mono ?_); rintro e w' ⟨rfl, rfl⟩))
                have hmn : (if b.f1 < a.f1 then b.f1 else a.f1) = mn a.f1 b.f1 := rfl
                refine start_ (n := 10) (S := fun w' => w'.cell? ⟨A1, o1 + 1, none⟩ = some (.int .i64 a.f1) ∧ w'.cell? ⟨A2, o2 + 1, none⟩ = some (.int .i64 b.f1)) (ds := []) #[false, false, false, false, false, false, false, false, false, false] (by kernel_rfl) rfl rfl ⟨x1, y1⟩ (fun hHeld => ?_)
                refine with_tabW hpR7.both.1 hpR7.both.2 (fun HT_ HW_ => ?_)
                refine pure_ (i := 0) (N := some 32) (v := ?_) (a' := ?_) #[true, false, false, false, false, false, false, false, false, false] rfl rfl (any_of HT_.out (by kernel_rfl)) (fun _ _ _ h => h) (Or.inl ⟨by rfl, ?_⟩) ?_ ?_
                rotate_left
                · intro w'
                  go_simp
                  with_reducible rfl
                rotate_left
                · simp only [Act.put, List.setIfInBounds_toArray, List.set_cons_zero, List.set_cons_succ, i64_w, i32_w]
                  rfl
                refine pure_ (i := 1) (N := some 33) (v := ?_) (a' := ?_) #[true, true, false, false, false, false, false, false, false, false] rfl rfl (any_of HT_.out (by kernel_rfl)) (fun _ _ _ h => h) (Or.inl ⟨by rfl, ?_⟩) ?_ ?_
                rotate_left
                · intro w'
                  go_simp
                  with_reducible rfl
                rotate_left
                · simp only [Act.put, List.setIfInBounds_toArray, List.set_cons_zero, List.set_cons_succ, i64_w, i32_w]
                  rfl
                refine pure_ (i := 2) (N := some 34) (v := ?_) (a' := ?_) #[true, true, true, false, false, false, false, false, false, false] rfl rfl (any_of HT_.out (by kernel_rfl)) (fun _ _ _ h => h) (Or.inl ⟨by rfl, ?_⟩) ?_ ?_
                rotate_left
                · intro w'
                  go_simp
                  with_reducible rfl
                rotate_left
                · simp only [Act.put, List.setIfInBounds_toArray, List.set_cons_zero, List.set_cons_succ, i64_w, i32_w]
                  rfl
                refine take_ (i := 3) (N := some 35) (v := ?_) (a' := ?_) #[true, true, true, true, false, false, false, false, false, false] rfl rfl (take_ofW HT_.out HW_.out (by kernel_rfl)) (fun _ _ _ h => h) (Or.inl ⟨by rfl, ?_⟩) hHeld ?_ ?_
                rotate_left
                · rintro w' ⟨s0, s1⟩
                  go_simp
                  with_reducible rfl
                rotate_left
                · simp only [Act.put, List.setIfInBounds_toArray, List.set_cons_zero, List.set_cons_succ, i64_w, i32_w]
                  rfl
                refine pure_ (i := 4) (N := some 36) (v := ?_) (a' := ?_) #[true, true, true, true, true, false, false, false, false, false] rfl rfl (any_of HT_.out (by kernel_rfl)) (fun _ _ _ h => h) (Or.inl ⟨by rfl, ?_⟩) ?_ ?_
                rotate_left
                · intro w'
                  go_simp
                  with_reducible rfl
                rotate_left
                · simp only [Act.put, List.setIfInBounds_toArray, List.set_cons_zero, List.set_cons_succ, i64_w, i32_w]
                  rfl
                refine pure_ (i := 5) (N := some 37) (v := ?_) (a' := ?_) #[true, true, true, true, true, true, false, false, false, false] rfl rfl (any_of HT_.out (by kernel_rfl)) (fun _ _ _ h => h) (Or.inl ⟨by rfl, ?_⟩) ?_ ?_
                rotate_left
                · intro w'
                  go_simp
                  with_reducible rfl
                rotate_left
                · simp only [Act.put, List.setIfInBounds_toArray, List.set_cons_zero, List.set_cons_succ, i64_w, i32_w]
                  rfl
                refine pure_ (i := 6) (N := some 38) (v := ?_) (a' := ?_) #[true, true, true, true, true, true, true, false, false, false] rfl rfl (any_of HT_.out (by kernel_rfl)) (fun _ _ _ h => h) (Or.inl ⟨by rfl, ?_⟩) ?_ ?_
                rotate_left
                · intro w'
                  go_simp
                  with_reducible rfl
                rotate_left
                · simp only [Act.put, List.setIfInBounds_toArray, List.set_cons_zero, List.set_cons_succ, i64_w, i32_w]
                  rfl
                refine take_ (i := 7) (N := some 39) (v := ?_) (a' := ?_) #[true, true, true, true, true, true, true, true, false, false] rfl rfl (take_ofW HT_.out HW_.out (by kernel_rfl)) (fun _ _ _ h => h) (Or.inl ⟨by rfl, ?_⟩) hHeld ?_ ?_
                rotate_left
                · rintro w' ⟨s0, s1⟩
                  go_simp
                  with_reducible rfl
                rotate_left
                · simp only [Act.put, List.setIfInBounds_toArray, List.set_cons_zero, List.set_cons_succ, i64_w, i32_w]
                  rfl
                refine pure_ (i := 8) (N := some 40) (v := ?_) (a' := ?_) #[true, true, true, true, true, true, true, true, true, false] rfl rfl (any_of HT_.out (by kernel_rfl)) (fun _ _ _ h => h) (Or.inl ⟨by rfl, ?_⟩) ?_ ?_
                rotate_left
                · intro w'
                  go_simp
                  with_reducible rfl
                rotate_left
                · simp only [Act.put, List.setIfInBounds_toArray, List.set_cons_zero, List.set_cons_succ, i64_w, i32_w]
                  rfl
                refine pure_ (i := 9) (N := some 9) (v := ?_) (a' := ?_) #[true, true, true, true, true, true, true, true, true, true] rfl rfl (any_of HT_.out (by kernel_rfl)) (fun _ _ _ h => h) (Or.inl ⟨by rfl, ?_⟩) ?_ ?_
                rotate_left
                · intro w'
                  go_simp
                  with_reducible rfl
                rotate_left
                · simp only [Act.put, List.setIfInBounds_toArray, List.set_cons_zero, List.set_cons_succ, i64_w, i32_w]
                  rfl
                refine done_ (done_of HT_.out (by kernel_rfl)) ?_
                generalize mn a.f1 b.f1 = m at HN ⊢
                go_wp2
                have H8 := Aside0.mk H2.out.drew.drew
                have HO8 := Aside0.mk (Kd.R_drew (Kd.R_drew HO.out))
                have HB8 := Aside0.mk (below_drew1 (below_drew1 HB.out))
                clear H2 HO HB
                refine start_ (n := 14) (S := fun w' => w'.cell? ⟨A1, o1, none⟩ = some (.int .i64 a.f0) ∧ w'.cell? ⟨A2, o2, none⟩ = some (.int .i64 b.f0)) (ds := [11, 12]) #[false, false, false, false, false, false, false, false, false, false, false, false, false, false] (by kernel_rfl) rfl rfl ⟨x0, y0⟩ (fun hHeld => ?_)
                refine with_tabW hpR8.both.1 hpR8.both.2 (fun HT_ HW_ => ?_)
                refine pure_ (i := 0) (N := some 41) (v := ?_) (a' := ?_) #[true, false, false, false, false, false, false, false, false, false, false, false, false, false] rfl rfl (any_of HT_.out (by kernel_rfl)) (fun _ _ _ h => h) (Or.inl ⟨by rfl, ?_⟩) ?_ ?_
                rotate_left
                · intro w'
                  go_simp
                  with_reducible rfl
                rotate_left
                · simp only [Act.put, List.setIfInBounds_toArray, List.set_cons_zero, List.set_cons_succ, i64_w, i32_w]
                  rfl
                refine pure_ (i := 1) (N := some 42) (v := ?_) (a' := ?_) #[true, true, false, false, false, false, false, false, false, false, false, false, false, false] rfl rfl (any_of HT_.out (by kernel_rfl)) (fun _ _ _ h => h) (Or.inl ⟨by rfl, ?_⟩) ?_ ?_
                rotate_left
                · intro w'
                  go_simp
                  with_reducible rfl
                rotate_left
                · simp only [Act.put, List.setIfInBounds_toArray, List.set_cons_zero, List.set_cons_succ, i64_w, i32_w]
                  rfl
                refine pure_ (i := 2) (N := some 43) (v := ?_) (a' := ?_) #[true, true, true, false, false, false, false, false, false, false, false, false, false, false] rfl rfl (any_of HT_.out (by kernel_rfl)) (fun _ _ _ h => h) (Or.inl ⟨by rfl, ?_⟩) ?_ ?_
                rotate_left
                · intro w'
                  go_simp
                  with_reducible rfl
                rotate_left
                · simp only [Act.put, List.setIfInBounds_toArray, List.set_cons_zero, List.set_cons_succ, i64_w, i32_w]
                  rfl
                refine pure_ (i := 3) (N := some 44) (v := ?_) (a' := ?_) #[true, true, true, true, false, false, false, false, false, false, false, false, false, false] rfl rfl (any_of HT_.out (by kernel_rfl)) (fun _ _ _ h => h) (Or.inl ⟨by rfl, ?_⟩) ?_ ?_
                rotate_left
                · intro w'
                  go_simp
                  with_reducible rfl
                rotate_left
                · simp only [Act.put, List.setIfInBounds_toArray, List.set_cons_zero, List.set_cons_succ, i64_w, i32_w]
                  rfl
                refine take_ (i := 4) (N := some 45) (v := ?_) (a' := ?_) #[true, true, true, true, true, false, false, false, false, false, false, false, false, false] rfl rfl (take_ofW HT_.out HW_.out (by kernel_rfl)) (fun _ _ _ h => h) (Or.inl ⟨by rfl, ?_⟩) hHeld ?_ ?_
                rotate_left
                · rintro w' ⟨s0, s1⟩
                  go_simp
                  with_reducible rfl
                rotate_left
                · simp only [Act.put, List.setIfInBounds_toArray, List.set_cons_zero, List.set_cons_succ, i64_w, i32_w]
                  rfl
                refine pure_ (i := 5) (N := some 46) (v := ?_) (a' := ?_) #[true, true, true, true, true, true, false, false, false, false, false, false, false, false] rfl rfl (any_of HT_.out (by kernel_rfl)) (fun _ _ _ h => h) (Or.inl ⟨by rfl, ?_⟩) ?_ ?_
                rotate_left
                · intro w'
                  go_simp
                  with_reducible rfl
                rotate_left
                · simp only [Act.put, List.setIfInBounds_toArray, List.set_cons_zero, List.set_cons_succ, i64_w, i32_w]
                  rfl
                refine pure_ (i := 6) (N := some 47) (v := ?_) (a' := ?_) #[true, true, true, true, true, true, true, false, false, false, false, false, false, false] rfl rfl (any_of HT_.out (by kernel_rfl)) (fun _ _ _ h => h) (Or.inl ⟨by rfl, ?_⟩) ?_ ?_
                rotate_left
                · intro w'
                  go_simp
                  with_reducible rfl
                rotate_left
                · simp only [Act.put, List.setIfInBounds_toArray, List.set_cons_zero, List.set_cons_succ, i64_w, i32_w]
                  rfl
                refine pure_ (i := 7) (N := some 48) (v := ?_) (a' := ?_) #[true, true, true, true, true, true, true, true, false, false, false, false, false, false] rfl rfl (any_of HT_.out (by kernel_rfl)) (fun _ _ _ h => h) (Or.inl ⟨by rfl, ?_⟩) ?_ ?_
                rotate_left
                · intro w'
                  go_simp
                  with_reducible rfl
                rotate_left
                · simp only [Act.put, List.setIfInBounds_toArray, List.set_cons_zero, List.set_cons_succ, i64_w, i32_w]
                  rfl
                refine take_ (i := 8) (N := some 49) (v := ?_) (a' := ?_) #[true, true, true, true, true, true, true, true, true, false, false, false, false, false] rfl rfl (take_ofW HT_.out HW_.out (by kernel_rfl)) (fun _ _ _ h => h) (Or.inl ⟨by rfl, ?_⟩) hHeld ?_ ?_
                rotate_left
                · rintro w' ⟨s0, s1⟩
                  go_simp
                  with_reducible rfl
                rotate_left
                · simp only [Act.put, List.setIfInBounds_toArray, List.set_cons_zero, List.set_cons_succ, i64_w, i32_w]
                  rfl
                refine pure_ (i := 9) (N := some 50) (v := ?_) (a' := ?_) #[true, true, true, true, true, true, true, true, true, true, false, false, false, false] rfl rfl (any_of HT_.out (by kernel_rfl)) (fun _ _ _ h => h) (Or.inl ⟨by rfl, ?_⟩) ?_ ?_
                rotate_left
                · intro w'
                  go_simp
                  with_reducible rfl
                rotate_left
                · simp only [Act.put, List.setIfInBounds_toArray, List.set_cons_zero, List.set_cons_succ, i64_w, i32_w]
                  rfl
                refine pure_ (i := 10) (N := some 51) (v := ?_) (a' := ?_) #[true, true, true, true, true, true, true, true, true, true, true, false, false, false] rfl rfl (any_of HT_.out (by kernel_rfl)) (fun _ _ _ h => h) (Or.inl ⟨by rfl, ?_⟩) ?_ ?_
                rotate_left
                · intro w'
                  go_simp
                  with_reducible rfl
                rotate_left
                · simp only [Act.put, List.setIfInBounds_toArray, List.set_cons_zero, List.set_cons_succ, i64_w, i32_w]
                  rfl
                refine last_ (i := 11) (N := some 52) #[true, true, true, true, true, true, true, true, true, true, true, true, false, false] rfl rfl (one_of HT_.out (by kernel_rfl)) (by decide) (fun K hK => ?_)
                refine value_ (w1 := ?_) (v := ?_) (by rfl) rfl ?_ ?_
                rotate_left 2
                · go_simp
                  first
                    | done
                    | (constructor <;> rfl)
                    | rfl
                refine hK.out _ _ ?_
                clear hK K
                refine norm_ (a' := ?_) ?_ ?_
                rotate_left
                · show Act.put _ (some 52) _ = _
                  simp only [Act.put, List.setIfInBounds_toArray, List.set_cons_zero, List.set_cons_succ, i64_w, i32_w]
                  rfl
                refine last_ (i := 12) (N := some 53) #[true, true, true, true, true, true, true, true, true, true, true, true, true, false] rfl rfl (one_of HT_.out (by kernel_rfl)) (by decide) (fun K hK => ?_)
                refine Kd.R_append_step k47 (w0 := w) w.heap.size (by rfl) (.tmp 41) (.tmp 52) 36 47 (.agg #[(.int .i64 0), (.int .i64 0), (.int .i64 0)]) 24 rfl Try.underlying36 info47 rfl (by decide) (by omega) u4 out (⟨a.f0, b.f0, m⟩ : S47) [.int .i64 a.f0, .int .i64 b.f0, .int .i64 m] (fun _ => True) (fun _ => False) rfl rfl (k47_mkM _ _ _ ⟨a.f0, b.f0, m⟩) (fun _ hk => hk.elim) (fun _ _ => trivial) HO8.out HB8.out (HB8.out.size) (by omega) ?_
                intro v5 w9 ho hb hg hat
                replace H2 := H8.out.far (Kept.of_grown (S := fun k => some k = u4.ownBlock) hg (Kept.refl _ _) (fun k hk => .inl hk.symm)) (fun k hk => by
                  obtain ⟨cells, hc⟩ := Kd.R_typed HO8.out k hk.symm
                  exact ⟨cells, 47, hc, by decide, by decide⟩)
                have H9 := Aside0.mk H2
                have HO9 := Aside0.mk ho
                have HB9 := Aside0.mk hb
                clear ho hb hg hat H2 H8 HO8 HB8
                refine hK.out _ _ ?_
                clear hK K
                refine norm_ (a' := ?_) ?_ ?_
                rotate_left
                · show Act.put _ (some 53) _ = _
                  simp only [Act.put, List.setIfInBounds_toArray, List.set_cons_zero, List.set_cons_succ, i64_w, i32_w]
                  rfl
                refine pure_ (i := 13) (N := some 4) (v := ?_) (a' := ?_) #[true, true, true, true, true, true, true, true, true, true, true, true, true, true] rfl rfl (any_of HT_.out (by kernel_rfl)) (fun _ _ _ h => h) (Or.inl ⟨by rfl, ?_⟩) ?_ ?_
                rotate_left
                · intro w'
                  go_simp
                  with_reducible rfl
                rotate_left
                · simp only [Act.put, List.setIfInBounds_toArray, List.set_cons_zero, List.set_cons_succ, i64_w, i32_w]
                  rfl
                refine done_ (done_of HT_.out (by kernel_rfl)) ?_
                clear x0 x1 fx y0 y1 fy
                obtain ⟨A1', o1', c1', e1, _, _, x1, fx, qx⟩ := hp_front H9.out.c
                cases e1
                obtain ⟨A2', o2', c2', e2, _, _, _, _, _⟩ := hp_front H9.out.d
                cases e2
                have n1 := Kd.Q_ne H9.out.c H9.out.a (by decide)
                have n2 := Kd.Q_ne H9.out.d H9.out.b (by decide)
                have t1 := Kd.Q_typed H9.out.c A1 rfl
                have H10 : HpQ (w9.setCell ⟨A1, o1 + 1, none⟩ (.int .i64 (wrap64 (a.f1 - m)))) w.heap.size q1 q2 _ _ (⟨a.f0, wrap64 (a.f1 - m)⟩ :: L1) (b :: L2) :=
                  H9.out.step (v' := .slice (some ⟨A1, o1, none⟩) (L1.length + 1) c1) (Kept.setCell (S := fun k => k = q1 ∨ some k = some A1) (Kept.refl _ _) (.inl (.inr rfl)) (.int .i64 (wrap64 (a.f1 - m)))) ((Below.heap_setCell w9 ⟨A1, o1 + 1, none⟩ _ q1 (fun e => n1 (by rw [e]; rfl))).trans H9.out.a) (qx _) (.inl rfl)
                have HO10 := hp_row (S := fun k => k = A1) HO9.out (w' := w9.setCell ⟨A1, o1 + 1, none⟩ (.int .i64 (wrap64 (a.f1 - m)))) (Kept.setCell (S := fun k => k = A1) (Kept.refl _ _) (.inl rfl) _) (fun k hk => by
                  subst hk
                  obtain ⟨cells, hc⟩ := t1
                  exact ⟨cells, _, hc, by decide⟩)
                have HB10 := HB9.out.setCell (p := ⟨A1, o1 + 1, none⟩) hA1 (.int .i64 (wrap64 (a.f1 - m)))
                obtain ⟨A2', o2', c2', e2, _, _, y1, fy, qy⟩ := hp_front H10.d
                cases e2
                have t2 := Kd.Q_typed H10.d A2 rfl
                have m2 := Kd.Q_ne H10.d H10.b (by decide)
                have H11 : HpQ ((w9.setCell ⟨A1, o1 + 1, none⟩ (.int .i64 (wrap64 (a.f1 - m)))).setCell ⟨A2, o2 + 1, none⟩ (.int .i64 (wrap64 (b.f1 - m)))) w.heap.size q1 q2 _ _ (⟨a.f0, wrap64 (a.f1 - m)⟩ :: L1) (⟨b.f0, wrap64 (b.f1 - m)⟩ :: L2) :=
                  (H10.swap.step (v' := .slice (some ⟨A2, o2, none⟩) (L2.length + 1) c2) (Kept.setCell (S := fun k => k = q2 ∨ some k = some A2) (Kept.refl _ _) (.inl (.inr rfl)) (.int .i64 (wrap64 (b.f1 - m)))) ((Below.heap_setCell _ ⟨A2, o2 + 1, none⟩ _ q2 (fun e => m2 (by rw [e]; rfl))).trans H10.b) (qy _) (.inl rfl)).swap
                have HO11 := hp_row (S := fun k => k = A2) HO10 (w' := (w9.setCell ⟨A1, o1 + 1, none⟩ (.int .i64 (wrap64 (a.f1 - m)))).setCell ⟨A2, o2 + 1, none⟩ (.int .i64 (wrap64 (b.f1 - m)))) (Kept.setCell (S := fun k => k = A2) (Kept.refl _ _) (.inl rfl) _) (fun k hk => by
                  subst hk
                  obtain ⟨cells, hc⟩ := t2
                  exact ⟨cells, _, hc, by decide⟩)
                have HB11 := HB10.setCell (p := ⟨A2, o2 + 1, none⟩) hA2 (.int .i64 (wrap64 (b.f1 - m)))
                obtain ⟨A1', o1', c1', e1, _, _, x2, _, _⟩ := hp_front H11.c
                cases e1
                obtain ⟨A2', o2', c2', e2, _, _, y2, _, _⟩ := hp_front H11.d
                cases e2
                dsimp only at x2 y2
                clear qx qy n1 n2 m2 hmn
                have P1 : Calls Try.prog 61 #[.pointer (some ⟨q1, 0, none⟩)] ((w9.setCell ⟨A1, o1 + 1, none⟩ (.int .i64 (wrap64 (a.f1 - m)))).setCell ⟨A2, o2 + 1, none⟩ (.int .i64 (wrap64 (b.f1 - m)))) fun e w' => e = .returned (.tuple #[]) ∧ w'.cell? ⟨A2, o2 + 1, none⟩ = some (.int .i64 (wrap64 (b.f1 - m))) ∧ Below w.heap.size w w' ∧ Kd.R k47 47 w' w.heap.size (fun _ => True) v5 (out ++ [⟨a.f0, b.f0, m⟩]) ∧ ∃ v', HpQ w' w.heap.size q1 q2 v' (.slice (some ⟨A2, o2, none⟩) (L2.length + 1) c2) L1 (⟨b.f0, wrap64 (b.f1 - m)⟩ :: L2) := by
                  refine (hp_drop w _ w.heap.size q1 q2 _ _ _ _ _ H11 HB11).mono ?_
                  rintro e w' ⟨rfl, v', hq, _, hk, hb⟩
                  obtain ⟨A2', o2', c2', e2, _, _, y3, _, _⟩ := hp_front hq.d
                  cases e2
                  exact ⟨rfl, y3, hb, hp_row HO11 hk (fun k hk => by subst hk; exact ⟨_, _, H11.a, by decide⟩), v', hq⟩
                have P2 : ∀ W v' H', HpQ W w.heap.size q1 q2 v' (.slice (some ⟨A2, o2, none⟩) (L2.length + 1) c2) H' (⟨b.f0, wrap64 (b.f1 - m)⟩ :: L2) → Below w.heap.size w W → Kd.R k47 47 W w.heap.size (fun _ => True) v5 (out ++ [⟨a.f0, b.f0, m⟩]) →
                    Calls Try.prog 61 #[.pointer (some ⟨q2, 0, none⟩)] W fun e w' => e = .returned (.tuple #[]) ∧ Below w.heap.size w w' ∧ Kd.R k47 47 w' w.heap.size (fun _ => True) v5 (out ++ [⟨a.f0, b.f0, m⟩]) ∧ ∃ v'', HpQ w' w.heap.size q1 q2 v' v'' H' L2 := by
                  intro W v' H' hq hb hr
                  refine (hp_drop w _ w.heap.size q2 q1 _ _ _ _ _ hq.swap hb).mono ?_
                  rintro e w' ⟨rfl, v'', h, _, hk, hb⟩
                  exact ⟨rfl, hb, hp_row hr hk (fun k hk => by subst hk; exact ⟨_, _, hq.b, by decide⟩), v'', h.swap⟩
                have PP1 := Aside0.mk P1
                have PP2 := Aside0.mk P2
                have G11 := Aside0.mk H11
                have GO11 := Aside0.mk HO11
                have GB11 := Aside0.mk HB11
                clear P1 P2 H11 HO11 HB11 H10 HO10 HB10 H9 HO9 HB9 t1 t2
                have HK2 : Aside0 (k1 ≤ k) := ⟨by have := HK.out; omega⟩
                by_cases z1 : wrap64 (a.f1 - m) = 0
                · by_cases z2 : wrap64 (b.f1 - m) = 0
                  · have d1 : (wrap64 (a.f1 - m) == 0) = true := beq_iff_eq.2 z1
                    have d2 : (wrap64 (b.f1 - m) == 0) = true := beq_iff_eq.2 z2
                    have HZ := HN.out
                    unfold hpCut at HZ
                    rw [if_pos z1, if_pos z2] at HZ
                    have HN2 := Aside0.mk HZ
                    clear HZ HN z1 z2
                    go_wp2_with (first | (go_at_call 61; (with_reducible refine PP1.out.mono ?_); rintro e w' ⟨rfl, y3, hb, hr, v', hq⟩; have K1 := Aside0.mk hb; have K2 := Aside0.mk hr; have K3 := Aside0.mk hq; clear hb hr hq) | (go_at_call 61; (with_reducible refine (PP2.out _ _ _ K3.out K1.out K2.out).mono ?_); rintro e w' ⟨rfl, hb, hr, v'', hq⟩; have J1 := Aside0.mk hb; have J2 := Aside0.mk hr; have J3 := Aside0.mk hq; clear hb hr hq))
                    go_roundg k1
                    case measure => omega
                    case rel => exact ⟨_, _, _, _, _, HN2, HK2, J2, J3, J1⟩
                  · have d1 : (wrap64 (a.f1 - m) == 0) = true := beq_iff_eq.2 z1
                    have d2 : (wrap64 (b.f1 - m) == 0) = false := beq_eq_false_iff_ne.2 z2
                    have HZ := HN.out
                    unfold hpCut at HZ
                    rw [if_pos z1, if_neg z2] at HZ
                    have HN2 := Aside0.mk HZ
                    clear HZ HN z1 z2
                    go_wp2_with (first | (go_at_call 61; (with_reducible refine PP1.out.mono ?_); rintro e w' ⟨rfl, y3, hb, hr, v', hq⟩; have K1 := Aside0.mk hb; have K2 := Aside0.mk hr; have K3 := Aside0.mk hq; clear hb hr hq))
                    go_roundg k1
                    case measure => omega
                    case rel => exact ⟨_, _, _, _, _, HN2, HK2, K2, K3, K1⟩
                · by_cases z2 : wrap64 (b.f1 - m) = 0
                  · have d1 : (wrap64 (a.f1 - m) == 0) = false := beq_eq_false_iff_ne.2 z1
                    have d2 : (wrap64 (b.f1 - m) == 0) = true := beq_iff_eq.2 z2
                    have HZ := HN.out
                    unfold hpCut at HZ
                    rw [if_neg z1, if_pos z2] at HZ
                    have HN2 := Aside0.mk HZ
                    clear HZ HN z1 z2
                    go_wp2_with (first | (go_at_call 61; (with_reducible refine (PP2.out _ _ _ G11.out GB11.out GO11.out).mono ?_); rintro e w' ⟨rfl, hb, hr, v'', hq⟩; have J1 := Aside0.mk hb; have J2 := Aside0.mk hr; have J3 := Aside0.mk hq; clear hb hr hq))
                    go_roundg k1
                    case measure => omega
                    case rel => exact ⟨_, _, _, _, _, HN2, HK2, J2, J3, J1⟩
                  · have d1 : (wrap64 (a.f1 - m) == 0) = false := beq_eq_false_iff_ne.2 z1
                    have d2 : (wrap64 (b.f1 - m) == 0) = false := beq_eq_false_iff_ne.2 z2
                    have HZ := HN.out
                    unfold hpCut at HZ
                    rw [if_neg z1, if_neg z2] at HZ
                    have HN2 := Aside0.mk HZ
                    clear HZ HN z1 z2
                    go_wp2_with fail
                    go_roundg k1
                    case measure => omega
                    case rel => exact ⟨_, _, _, _, _, HN2, HK2, GO11, G11, GB11⟩
              · rw [if_neg hlen] at h
                exact absurd h (by simp)
    · rw [if_neg hl] at h
      exact absurd h (by simp)


end Go.Proofs.Ytekgcfjoimdecaa.P
