-- Written by a program of this session (wip/xprint.py over the print's own program), not by print.sh. Lean checks it.
import Derived.Test.YtkhemhmdapggmaaPx0
namespace Go.Proofs.Ytkhemhmdapggmaa.P
open Go.RowKit Go.Proofs.YtkhemhmdapggmaaW.PrintWords Go.Proofs.YtkhemhmdapggmaaW.PrintLast Go.Proofs.YtkhemhmdapggmaaW.PrintMore
attribute [local go_sem] max2_int min2_int max_two min_two max_three min_three max_four min_four   -- for this text's walks alone
set_option linter.unusedVariables false
set_option linter.unusedSimpArgs false

-- EXTERNAL impl_squareCase: function 45
/-- What the first n corners of a square come to. -/
def sqN (lv a b c d : Int) (n : Nat) : Int := (if 1 ≤ n ∧ lv ≤ a then 1 else 0) + (if 2 ≤ n ∧ lv ≤ b then 2 else 0) + (if 3 ≤ n ∧ lv ≤ c then 4 else 0) + (if 4 ≤ n ∧ lv ≤ d then 8 else 0)
theorem sqN_range (lv a b c d : Int) (n : Nat) : 0 ≤ sqN lv a b c d n ∧ sqN lv a b c d n ≤ 15 := by unfold sqN; split <;> split <;> split <;> split <;> omega
theorem sqN_1 (lv a b c d : Int) : sqN lv a b c d 1 = sqN lv a b c d 0 + if lv ≤ a then 1 else 0 := by simp [sqN]
theorem sqN_2 (lv a b c d : Int) : sqN lv a b c d 2 = sqN lv a b c d 1 + if lv ≤ b then 2 else 0 := by simp [sqN]
theorem sqN_3 (lv a b c d : Int) : sqN lv a b c d 3 = sqN lv a b c d 2 + if lv ≤ c then 4 else 0 := by simp [sqN]
theorem sqN_4 (lv a b c d : Int) : sqN lv a b c d 4 = sqN lv a b c d 3 + if lv ≤ d then 8 else 0 := by simp [sqN]
/-- An operation that yields a value, in a plain region. -/
theorem sq_yield {P : Program} {ops : Array Oper} {Q : Exit → Act → World → Prop} {rest : List Oper} {oi : Oper} {a : Act} {w : World} (N : Option Tmp) (hd : oi.dst = N) (hg : oi.guard = none) (v : Value)
    (hrun : (execOp a.eval oi).run P w = .ok (.value v) w) (h : wpList P ops Q rest (a.put N v) w) : wpList P ops Q (oi :: rest) a w := by
  refine wpList_plain hg fun K hK => ?_
  unfold Oper.wp
  rw [hrun]
  subst hd
  exact hK _ _ h
theorem sqadd_succ (a : Addr) (n : Nat) : a.add (n + 1) = { block := a.block, off := a.off + (n + 1), spot := none } := by simp [Addr.add]
theorem sqRow_get {g : List (List Int)} {i : Nat} (h : i < g.length) : rd_L1 g (i : Int) = g[i] := by
  unfold rd_L1; simp [List.getD_eq_getElem?_getD, h]
theorem sqInt_get {l : List Int} {i : Nat} (h : i < l.length) : rd l (i : Int) = l[i] := by unfold rd; simp [List.getD_eq_getElem?_getD, h]
theorem sqret {a b : Int} (h : a = b) : Ending.returned (.int .i64 a) = .returned (.int .i64 b) := by rw [h]
def impl_squareCase.f (l0 : List (List Int)) (a1 : Int) (a2 : Int) (a3 : Int) : Option Int :=
  if 0 ≤ a2 ∧ a2 ≤ 100 ∧ 0 ≤ a3 ∧ a3 ≤ 100 ∧ a2 + 1 < (l0.length : Int) ∧ a3 + 1 < ((rd_L1 l0 a2).length : Int) ∧ a3 + 1 < ((rd_L1 l0 (a2 + 1)).length : Int) then
    some (sqN a1 (rd (rd_L1 l0 a2) a3) (rd (rd_L1 l0 a2) (a3 + 1)) (rd (rd_L1 l0 (a2 + 1)) (a3 + 1)) (rd (rd_L1 l0 (a2 + 1)) a3) 4) else none
def impl_squareCase.T2 : Bool × List (List Nat × List Nat) := (true, [([], []), ([], []), ([0, 1], [0, 1]), ([2], [2]), ([], []), ([3, 4], [3, 4]), ([5], [5]), ([], []), ([], []), ([7, 8], [7, 8]), ([9], [9]), ([], []), ([11], [11]), ([10, 12], [10, 12]), ([13], [13]), ([], []), ([], []), ([16], [16]), ([15, 17], [15, 17]), ([18], [18]), ([], []), ([20], [20]), ([19, 21], [19, 21]), ([22], [22]), ([], []), ([], []), ([25], [25]), ([24, 26], [24, 26]), ([27], [27]), ([], []), ([28, 29], [28, 29]), ([30], [30]), ([6, 14, 23, 31], [6, 14, 23, 31]), ([], []), ([33, 32, 0, 1, 2, 3, 4, 5, 6, 7, 8, 9, 10, 11, 12, 13, 14, 15, 16, 17, 18, 19, 20, 21, 22, 23, 24, 25, 26, 27, 28, 29, 30, 31, 32, 33], [32, 33])])
def impl_squareCase.B2 : List Nat := [0, 0, 3, 7, 0, 31, 63, 0, 0, 384, 896, 0, 2048, 8064, 16256, 0, 0, 65536, 229376, 491520, 0, 1048576, 4161536, 8355840, 0, 0, 33554432, 117440512, 251658240, 0, 1056964608, 2130706432, 4294967295, 0, 17179869183]
theorem impl_squareCase.tab2 : rtab .any (opsOf Try.f45 2) = impl_squareCase.T2 := by kernel_rfl
theorem impl_squareCase.bits2 : waitsOk impl_squareCase.T2.2 impl_squareCase.B2 = true := by kernel_rfl
set_option maxHeartbeats 4000000 in
set_option maxRecDepth 100000 in
theorem sq_walk (g : List (List Int)) (A : Option Addr) (c0 : Nat) (lv : Int) (i j : Nat) (w : World) (hr : Kd.C (Kd.slice 3 (Kd.int .i64)) w A g.length g) (hc0 : g.length ≤ c0) (hi100 : i ≤ 100) (hj100 : j ≤ 100) (hi : i + 1 < g.length) (h1 : j + 1 < g[i].length) (h2 : j + 1 < g[i + 1].length) :
    Calls Try.prog 45 #[.slice A g.length c0, .int .i64 lv, .int .i64 i, .int .i64 j] w fun e w' => e = .returned (.int .i64 (sqN lv g[i][j] g[i][j + 1] g[i + 1][j + 1] g[i + 1][j] 4)) ∧ Below w.heap.size w w' := by
  have hrow := at_L1 hr (i : Int) (by omega) (by omega)
  rw [sqRow_get (by omega)] at hrow
  obtain ⟨ad, A1, c1, e1, hx, hlen, hC⟩ := hrow
  rw [Int.toNat_natCast] at hx
  have hrow2 := at_L1 hr ((i + 1 : Nat) : Int) (by omega) (by omega)
  rw [sqRow_get (by omega)] at hrow2
  obtain ⟨ad', A2, c2, e2, hx2, hlen2, hC2⟩ := hrow2
  rw [Int.toNat_natCast, sqadd_succ] at hx2
  subst e1
  obtain rfl := Option.some.inj e2
  obtain ⟨a1, e1, y1⟩ := Kd.at_int hC (j : Int) (by omega) (by omega)
  obtain ⟨a1', e1', y2⟩ := Kd.at_int hC ((j + 1 : Nat) : Int) (by omega) (by omega)
  rw [Int.toNat_natCast, sqInt_get (by omega)] at y1 y2
  subst e1
  obtain rfl := Option.some.inj e1'
  obtain ⟨a2, e2, y3⟩ := Kd.at_int hC2 (j : Int) (by omega) (by omega)
  obtain ⟨a2', e2', y4⟩ := Kd.at_int hC2 ((j + 1 : Nat) : Int) (by omega) (by omega)
  rw [Int.toNat_natCast, sqInt_get (by omega)] at y3 y4
  subst e2
  obtain rfl := Option.some.inj e2'
  rw [sqadd_succ] at y2 y4
  have hwi : IntKind.i64.wrap ((i : Int) + 1) = (i : Int) + 1 := by rw [IntKind.wrap_i64]; omega
  have hwj : IntKind.i64.wrap ((j : Int) + 1) = (j : Int) + 1 := by rw [IntKind.wrap_i64]; omega
  generalize g[i][j] = x1 at *
  generalize g[i][j + 1] = x2 at *
  generalize g[i + 1][j] = x3 at *
  generalize g[i + 1][j + 1] = x4 at *
  generalize g[i].length = n1 at *
  generalize g[i + 1].length = n2 at *
  clear hr hC hC2
  go_enter Try.func45, Try.ntmps45
  go_wp2_with fail
  have pi : ((0 : Int) ≤ (i : Int)) = True := eq_true (by omega)
  have pj : ((0 : Int) ≤ (j : Int)) = True := eq_true (by omega)
  have pi' : ((0 : Int) ≤ (i : Int) + 1) = True := eq_true (by omega)
  have pj' : ((0 : Int) ≤ (j : Int) + 1) = True := eq_true (by omega)
  have qi : ((i : Int) < (g.length : Int)) = True := eq_true (by omega)
  have qi' : ((i : Int) + 1 < (g.length : Int)) = True := eq_true (by omega)
  have qj1 : ((j : Int) < (n1 : Int)) = True := eq_true (by omega)
  have qj1' : ((j : Int) + 1 < (n1 : Int)) = True := eq_true (by omega)
  have qj2 : ((j : Int) < (n2 : Int)) = True := eq_true (by omega)
  have qj2' : ((j : Int) + 1 < (n2 : Int)) = True := eq_true (by omega)
  clear hi h1 h2 hi100 hj100
  refine start_ (n := 35) (S := fun w' => w'.cell? (ad.add i) = some (.slice (some a1) n1 c1) ∧ w'.cell? { block := ad.block, off := ad.off + (i + 1), spot := none } = some (.slice (some a2) n2 c2) ∧ w'.cell? (a1.add j) = some (.int .i64 x1) ∧ w'.cell? { block := a1.block, off := a1.off + (j + 1), spot := none } = some (.int .i64 x2) ∧ w'.cell? (a2.add j) = some (.int .i64 x3) ∧ w'.cell? { block := a2.block, off := a2.off + (j + 1), spot := none } = some (.int .i64 x4)) (ds := [34]) #[false, false, false, false, false, false, false, false, false, false, false, false, false, false, false, false, false, false, false, false, false, false, false, false, false, false, false, false, false, false, false, false, false, false, false] (by kernel_rfl) rfl rfl ⟨hx, hx2, y1, y2, y3, y4⟩ (fun hHeld => ?_)
  refine with_tabW impl_squareCase.tab2 impl_squareCase.bits2 (fun HT_ HW_ => ?_)
  refine pure_ (i := 0) (N := some 13) (v := ?_) (a' := ?_) #[true, false, false, false, false, false, false, false, false, false, false, false, false, false, false, false, false, false, false, false, false, false, false, false, false, false, false, false, false, false, false, false, false, false, false] rfl rfl (any_of HT_.out (by kernel_rfl)) (fun _ _ _ h => h) (Or.inl ⟨by rfl, ?_⟩) ?_ ?_
  rotate_left
  · intro w'
    go_simp
    with_reducible rfl
  rotate_left
  · simp only [Act.put, List.setIfInBounds_toArray, List.set_cons_zero, List.set_cons_succ]
    rfl
  refine pure_ (i := 1) (N := some 14) (v := ?_) (a' := ?_) #[true, true, false, false, false, false, false, false, false, false, false, false, false, false, false, false, false, false, false, false, false, false, false, false, false, false, false, false, false, false, false, false, false, false, false] rfl rfl (any_of HT_.out (by kernel_rfl)) (fun _ _ _ h => h) (Or.inl ⟨by rfl, ?_⟩) ?_ ?_
  rotate_left
  · intro w'
    go_simp
    with_reducible rfl
  rotate_left
  · simp only [Act.put, List.setIfInBounds_toArray, List.set_cons_zero, List.set_cons_succ]
    rfl
  refine pure_ (i := 2) (N := some 15) (v := ?_) (a' := ?_) #[true, true, true, false, false, false, false, false, false, false, false, false, false, false, false, false, false, false, false, false, false, false, false, false, false, false, false, false, false, false, false, false, false, false, false] rfl rfl (any_of HT_.out (by kernel_rfl)) (fun _ _ _ h => h) (Or.inl ⟨by rfl, ?_⟩) ?_ ?_
  rotate_left
  · intro w'
    go_simp
    with_reducible rfl
  rotate_left
  · simp only [Act.put, List.setIfInBounds_toArray, List.set_cons_zero, List.set_cons_succ]
    rfl
  refine take_ (i := 3) (N := some 16) (v := ?_) (a' := ?_) #[true, true, true, true, false, false, false, false, false, false, false, false, false, false, false, false, false, false, false, false, false, false, false, false, false, false, false, false, false, false, false, false, false, false, false] rfl rfl (take_ofW HT_.out HW_.out (by kernel_rfl)) (fun _ _ _ h => h) (Or.inl ⟨by rfl, ?_⟩) hHeld ?_ ?_
  rotate_left
  · intro w' s0
    obtain ⟨s1, s2, s3, s4, s5, s6⟩ := s0
    go_simp
    with_reducible rfl
  rotate_left
  · simp only [Act.put, List.setIfInBounds_toArray, List.set_cons_zero, List.set_cons_succ]
    rfl
  refine pure_ (i := 4) (N := some 17) (v := ?_) (a' := ?_) #[true, true, true, true, true, false, false, false, false, false, false, false, false, false, false, false, false, false, false, false, false, false, false, false, false, false, false, false, false, false, false, false, false, false, false] rfl rfl (any_of HT_.out (by kernel_rfl)) (fun _ _ _ h => h) (Or.inl ⟨by rfl, ?_⟩) ?_ ?_
  rotate_left
  · intro w'
    go_simp
    with_reducible rfl
  rotate_left
  · simp only [Act.put, List.setIfInBounds_toArray, List.set_cons_zero, List.set_cons_succ]
    rfl
  refine pure_ (i := 5) (N := some 18) (v := ?_) (a' := ?_) #[true, true, true, true, true, true, false, false, false, false, false, false, false, false, false, false, false, false, false, false, false, false, false, false, false, false, false, false, false, false, false, false, false, false, false] rfl rfl (any_of HT_.out (by kernel_rfl)) (fun _ _ _ h => h) (Or.inl ⟨by rfl, ?_⟩) ?_ ?_
  rotate_left
  · intro w'
    go_simp
    with_reducible rfl
  rotate_left
  · simp only [Act.put, List.setIfInBounds_toArray, List.set_cons_zero, List.set_cons_succ]
    rfl
  refine take_ (i := 6) (N := some 19) (v := ?_) (a' := ?_) #[true, true, true, true, true, true, true, false, false, false, false, false, false, false, false, false, false, false, false, false, false, false, false, false, false, false, false, false, false, false, false, false, false, false, false] rfl rfl (take_ofW HT_.out HW_.out (by kernel_rfl)) (fun _ _ _ h => h) (Or.inl ⟨by rfl, ?_⟩) hHeld ?_ ?_
  rotate_left
  · intro w' s0
    obtain ⟨s1, s2, s3, s4, s5, s6⟩ := s0
    go_simp
    with_reducible rfl
  rotate_left
  · simp only [Act.put, List.setIfInBounds_toArray, List.set_cons_zero, List.set_cons_succ]
    rfl
  refine pure_ (i := 7) (N := some 20) (v := ?_) (a' := ?_) #[true, true, true, true, true, true, true, true, false, false, false, false, false, false, false, false, false, false, false, false, false, false, false, false, false, false, false, false, false, false, false, false, false, false, false] rfl rfl (any_of HT_.out (by kernel_rfl)) (fun _ _ _ h => h) (Or.inl ⟨by rfl, ?_⟩) ?_ ?_
  rotate_left
  · intro w'
    go_simp
    with_reducible rfl
  rotate_left
  · simp only [Act.put, List.setIfInBounds_toArray, List.set_cons_zero, List.set_cons_succ]
    rfl
  refine pure_ (i := 8) (N := some 21) (v := ?_) (a' := ?_) #[true, true, true, true, true, true, true, true, true, false, false, false, false, false, false, false, false, false, false, false, false, false, false, false, false, false, false, false, false, false, false, false, false, false, false] rfl rfl (any_of HT_.out (by kernel_rfl)) (fun _ _ _ h => h) (Or.inl ⟨by rfl, ?_⟩) ?_ ?_
  rotate_left
  · intro w'
    go_simp
    with_reducible rfl
  rotate_left
  · simp only [Act.put, List.setIfInBounds_toArray, List.set_cons_zero, List.set_cons_succ]
    rfl
  refine pure_ (i := 9) (N := some 22) (v := ?_) (a' := ?_) #[true, true, true, true, true, true, true, true, true, true, false, false, false, false, false, false, false, false, false, false, false, false, false, false, false, false, false, false, false, false, false, false, false, false, false] rfl rfl (any_of HT_.out (by kernel_rfl)) (fun _ _ _ h => h) (Or.inl ⟨by rfl, ?_⟩) ?_ ?_
  rotate_left
  · intro w'
    go_simp
    with_reducible rfl
  rotate_left
  · simp only [Act.put, List.setIfInBounds_toArray, List.set_cons_zero, List.set_cons_succ]
    rfl
  refine take_ (i := 10) (N := some 23) (v := ?_) (a' := ?_) #[true, true, true, true, true, true, true, true, true, true, true, false, false, false, false, false, false, false, false, false, false, false, false, false, false, false, false, false, false, false, false, false, false, false, false] rfl rfl (take_ofW HT_.out HW_.out (by kernel_rfl)) (fun _ _ _ h => h) (Or.inl ⟨by rfl, ?_⟩) hHeld ?_ ?_
  rotate_left
  · intro w' s0
    obtain ⟨s1, s2, s3, s4, s5, s6⟩ := s0
    go_simp
    with_reducible rfl
  rotate_left
  · simp only [Act.put, List.setIfInBounds_toArray, List.set_cons_zero, List.set_cons_succ]
    rfl
  refine pure_ (i := 11) (N := some 24) (v := ?_) (a' := ?_) #[true, true, true, true, true, true, true, true, true, true, true, true, false, false, false, false, false, false, false, false, false, false, false, false, false, false, false, false, false, false, false, false, false, false, false] rfl rfl (any_of HT_.out (by kernel_rfl)) (fun _ _ _ h => h) (Or.inl ⟨by rfl, ?_⟩) ?_ ?_
  rotate_left
  · intro w'
    go_simp
    with_reducible rfl
  rotate_left
  · simp only [Act.put, List.setIfInBounds_toArray, List.set_cons_zero, List.set_cons_succ]
    rfl
  refine pure_ (i := 12) (N := some 25) (v := .int .i64 ((j : Int) + 1)) (a' := ?_) #[true, true, true, true, true, true, true, true, true, true, true, true, true, false, false, false, false, false, false, false, false, false, false, false, false, false, false, false, false, false, false, false, false, false, false] rfl rfl (any_of HT_.out (by kernel_rfl)) (fun _ _ _ h => h) (Or.inl ⟨by rfl, ?_⟩) ?_ ?_
  · intro w'
    go_simp
    try (rw [hwj])
  rotate_left
  · simp only [Act.put, List.setIfInBounds_toArray, List.set_cons_zero, List.set_cons_succ]
    rfl
  refine pure_ (i := 13) (N := some 26) (v := ?_) (a' := ?_) #[true, true, true, true, true, true, true, true, true, true, true, true, true, true, false, false, false, false, false, false, false, false, false, false, false, false, false, false, false, false, false, false, false, false, false] rfl rfl (any_of HT_.out (by kernel_rfl)) (fun _ _ _ h => h) (Or.inl ⟨by rfl, ?_⟩) ?_ ?_
  rotate_left
  · intro w'
    go_simp
    with_reducible rfl
  rotate_left
  · simp only [Act.put, List.setIfInBounds_toArray, List.set_cons_zero, List.set_cons_succ]
    rfl
  refine take_ (i := 14) (N := some 27) (v := ?_) (a' := ?_) #[true, true, true, true, true, true, true, true, true, true, true, true, true, true, true, false, false, false, false, false, false, false, false, false, false, false, false, false, false, false, false, false, false, false, false] rfl rfl (take_ofW HT_.out HW_.out (by kernel_rfl)) (fun _ _ _ h => h) (Or.inl ⟨by rfl, ?_⟩) hHeld ?_ ?_
  rotate_left
  · intro w' s0
    obtain ⟨s1, s2, s3, s4, s5, s6⟩ := s0
    go_simp
    with_reducible rfl
  rotate_left
  · simp only [Act.put, List.setIfInBounds_toArray, List.set_cons_zero, List.set_cons_succ]
    rfl
  refine pure_ (i := 15) (N := some 28) (v := ?_) (a' := ?_) #[true, true, true, true, true, true, true, true, true, true, true, true, true, true, true, true, false, false, false, false, false, false, false, false, false, false, false, false, false, false, false, false, false, false, false] rfl rfl (any_of HT_.out (by kernel_rfl)) (fun _ _ _ h => h) (Or.inl ⟨by rfl, ?_⟩) ?_ ?_
  rotate_left
  · intro w'
    go_simp
    with_reducible rfl
  rotate_left
  · simp only [Act.put, List.setIfInBounds_toArray, List.set_cons_zero, List.set_cons_succ]
    rfl
  refine pure_ (i := 16) (N := some 29) (v := ?_) (a' := ?_) #[true, true, true, true, true, true, true, true, true, true, true, true, true, true, true, true, true, false, false, false, false, false, false, false, false, false, false, false, false, false, false, false, false, false, false] rfl rfl (any_of HT_.out (by kernel_rfl)) (fun _ _ _ h => h) (Or.inl ⟨by rfl, ?_⟩) ?_ ?_
  rotate_left
  · intro w'
    go_simp
    with_reducible rfl
  rotate_left
  · simp only [Act.put, List.setIfInBounds_toArray, List.set_cons_zero, List.set_cons_succ]
    rfl
  refine pure_ (i := 17) (N := some 30) (v := .int .i64 ((i : Int) + 1)) (a' := ?_) #[true, true, true, true, true, true, true, true, true, true, true, true, true, true, true, true, true, true, false, false, false, false, false, false, false, false, false, false, false, false, false, false, false, false, false] rfl rfl (any_of HT_.out (by kernel_rfl)) (fun _ _ _ h => h) (Or.inl ⟨by rfl, ?_⟩) ?_ ?_
  · intro w'
    go_simp
    try (rw [hwi])
  rotate_left
  · simp only [Act.put, List.setIfInBounds_toArray, List.set_cons_zero, List.set_cons_succ]
    rfl
  refine pure_ (i := 18) (N := some 31) (v := ?_) (a' := ?_) #[true, true, true, true, true, true, true, true, true, true, true, true, true, true, true, true, true, true, true, false, false, false, false, false, false, false, false, false, false, false, false, false, false, false, false] rfl rfl (any_of HT_.out (by kernel_rfl)) (fun _ _ _ h => h) (Or.inl ⟨by rfl, ?_⟩) ?_ ?_
  rotate_left
  · intro w'
    go_simp
    with_reducible rfl
  rotate_left
  · simp only [Act.put, List.setIfInBounds_toArray, List.set_cons_zero, List.set_cons_succ]
    rfl
  refine take_ (i := 19) (N := some 32) (v := ?_) (a' := ?_) #[true, true, true, true, true, true, true, true, true, true, true, true, true, true, true, true, true, true, true, true, false, false, false, false, false, false, false, false, false, false, false, false, false, false, false] rfl rfl (take_ofW HT_.out HW_.out (by kernel_rfl)) (fun _ _ _ h => h) (Or.inl ⟨by rfl, ?_⟩) hHeld ?_ ?_
  rotate_left
  · intro w' s0
    obtain ⟨s1, s2, s3, s4, s5, s6⟩ := s0
    go_simp
    with_reducible rfl
  rotate_left
  · simp only [Act.put, List.setIfInBounds_toArray, List.set_cons_zero, List.set_cons_succ]
    rfl
  refine pure_ (i := 20) (N := some 33) (v := ?_) (a' := ?_) #[true, true, true, true, true, true, true, true, true, true, true, true, true, true, true, true, true, true, true, true, true, false, false, false, false, false, false, false, false, false, false, false, false, false, false] rfl rfl (any_of HT_.out (by kernel_rfl)) (fun _ _ _ h => h) (Or.inl ⟨by rfl, ?_⟩) ?_ ?_
  rotate_left
  · intro w'
    go_simp
    with_reducible rfl
  rotate_left
  · simp only [Act.put, List.setIfInBounds_toArray, List.set_cons_zero, List.set_cons_succ]
    rfl
  refine pure_ (i := 21) (N := some 34) (v := .int .i64 ((j : Int) + 1)) (a' := ?_) #[true, true, true, true, true, true, true, true, true, true, true, true, true, true, true, true, true, true, true, true, true, true, false, false, false, false, false, false, false, false, false, false, false, false, false] rfl rfl (any_of HT_.out (by kernel_rfl)) (fun _ _ _ h => h) (Or.inl ⟨by rfl, ?_⟩) ?_ ?_
  · intro w'
    go_simp
    try (rw [hwj])
  rotate_left
  · simp only [Act.put, List.setIfInBounds_toArray, List.set_cons_zero, List.set_cons_succ]
    rfl
  refine pure_ (i := 22) (N := some 35) (v := ?_) (a' := ?_) #[true, true, true, true, true, true, true, true, true, true, true, true, true, true, true, true, true, true, true, true, true, true, true, false, false, false, false, false, false, false, false, false, false, false, false] rfl rfl (any_of HT_.out (by kernel_rfl)) (fun _ _ _ h => h) (Or.inl ⟨by rfl, ?_⟩) ?_ ?_
  rotate_left
  · intro w'
    go_simp
    with_reducible rfl
  rotate_left
  · simp only [Act.put, List.setIfInBounds_toArray, List.set_cons_zero, List.set_cons_succ]
    rfl
  refine take_ (i := 23) (N := some 36) (v := ?_) (a' := ?_) #[true, true, true, true, true, true, true, true, true, true, true, true, true, true, true, true, true, true, true, true, true, true, true, true, false, false, false, false, false, false, false, false, false, false, false] rfl rfl (take_ofW HT_.out HW_.out (by kernel_rfl)) (fun _ _ _ h => h) (Or.inl ⟨by rfl, ?_⟩) hHeld ?_ ?_
  rotate_left
  · intro w' s0
    obtain ⟨s1, s2, s3, s4, s5, s6⟩ := s0
    go_simp
    with_reducible rfl
  rotate_left
  · simp only [Act.put, List.setIfInBounds_toArray, List.set_cons_zero, List.set_cons_succ]
    rfl
  refine pure_ (i := 24) (N := some 37) (v := ?_) (a' := ?_) #[true, true, true, true, true, true, true, true, true, true, true, true, true, true, true, true, true, true, true, true, true, true, true, true, true, false, false, false, false, false, false, false, false, false, false] rfl rfl (any_of HT_.out (by kernel_rfl)) (fun _ _ _ h => h) (Or.inl ⟨by rfl, ?_⟩) ?_ ?_
  rotate_left
  · intro w'
    go_simp
    with_reducible rfl
  rotate_left
  · simp only [Act.put, List.setIfInBounds_toArray, List.set_cons_zero, List.set_cons_succ]
    rfl
  refine pure_ (i := 25) (N := some 38) (v := ?_) (a' := ?_) #[true, true, true, true, true, true, true, true, true, true, true, true, true, true, true, true, true, true, true, true, true, true, true, true, true, true, false, false, false, false, false, false, false, false, false] rfl rfl (any_of HT_.out (by kernel_rfl)) (fun _ _ _ h => h) (Or.inl ⟨by rfl, ?_⟩) ?_ ?_
  rotate_left
  · intro w'
    go_simp
    with_reducible rfl
  rotate_left
  · simp only [Act.put, List.setIfInBounds_toArray, List.set_cons_zero, List.set_cons_succ]
    rfl
  refine pure_ (i := 26) (N := some 39) (v := .int .i64 ((i : Int) + 1)) (a' := ?_) #[true, true, true, true, true, true, true, true, true, true, true, true, true, true, true, true, true, true, true, true, true, true, true, true, true, true, true, false, false, false, false, false, false, false, false] rfl rfl (any_of HT_.out (by kernel_rfl)) (fun _ _ _ h => h) (Or.inl ⟨by rfl, ?_⟩) ?_ ?_
  · intro w'
    go_simp
    try (rw [hwi])
  rotate_left
  · simp only [Act.put, List.setIfInBounds_toArray, List.set_cons_zero, List.set_cons_succ]
    rfl
  refine pure_ (i := 27) (N := some 40) (v := ?_) (a' := ?_) #[true, true, true, true, true, true, true, true, true, true, true, true, true, true, true, true, true, true, true, true, true, true, true, true, true, true, true, true, false, false, false, false, false, false, false] rfl rfl (any_of HT_.out (by kernel_rfl)) (fun _ _ _ h => h) (Or.inl ⟨by rfl, ?_⟩) ?_ ?_
  rotate_left
  · intro w'
    go_simp
    with_reducible rfl
  rotate_left
  · simp only [Act.put, List.setIfInBounds_toArray, List.set_cons_zero, List.set_cons_succ]
    rfl
  refine take_ (i := 28) (N := some 41) (v := ?_) (a' := ?_) #[true, true, true, true, true, true, true, true, true, true, true, true, true, true, true, true, true, true, true, true, true, true, true, true, true, true, true, true, true, false, false, false, false, false, false] rfl rfl (take_ofW HT_.out HW_.out (by kernel_rfl)) (fun _ _ _ h => h) (Or.inl ⟨by rfl, ?_⟩) hHeld ?_ ?_
  rotate_left
  · intro w' s0
    obtain ⟨s1, s2, s3, s4, s5, s6⟩ := s0
    go_simp
    with_reducible rfl
  rotate_left
  · simp only [Act.put, List.setIfInBounds_toArray, List.set_cons_zero, List.set_cons_succ]
    rfl
  refine pure_ (i := 29) (N := some 42) (v := ?_) (a' := ?_) #[true, true, true, true, true, true, true, true, true, true, true, true, true, true, true, true, true, true, true, true, true, true, true, true, true, true, true, true, true, true, false, false, false, false, false] rfl rfl (any_of HT_.out (by kernel_rfl)) (fun _ _ _ h => h) (Or.inl ⟨by rfl, ?_⟩) ?_ ?_
  rotate_left
  · intro w'
    go_simp
    with_reducible rfl
  rotate_left
  · simp only [Act.put, List.setIfInBounds_toArray, List.set_cons_zero, List.set_cons_succ]
    rfl
  refine pure_ (i := 30) (N := some 43) (v := ?_) (a' := ?_) #[true, true, true, true, true, true, true, true, true, true, true, true, true, true, true, true, true, true, true, true, true, true, true, true, true, true, true, true, true, true, true, false, false, false, false] rfl rfl (any_of HT_.out (by kernel_rfl)) (fun _ _ _ h => h) (Or.inl ⟨by rfl, ?_⟩) ?_ ?_
  rotate_left
  · intro w'
    go_simp
    with_reducible rfl
  rotate_left
  · simp only [Act.put, List.setIfInBounds_toArray, List.set_cons_zero, List.set_cons_succ]
    rfl
  refine take_ (i := 31) (N := some 44) (v := ?_) (a' := ?_) #[true, true, true, true, true, true, true, true, true, true, true, true, true, true, true, true, true, true, true, true, true, true, true, true, true, true, true, true, true, true, true, true, false, false, false] rfl rfl (take_ofW HT_.out HW_.out (by kernel_rfl)) (fun _ _ _ h => h) (Or.inl ⟨by rfl, ?_⟩) hHeld ?_ ?_
  rotate_left
  · intro w' s0
    obtain ⟨s1, s2, s3, s4, s5, s6⟩ := s0
    go_simp
    with_reducible rfl
  rotate_left
  · simp only [Act.put, List.setIfInBounds_toArray, List.set_cons_zero, List.set_cons_succ]
    rfl
  refine pure_ (i := 32) (N := some 45) (v := ?_) (a' := ?_) #[true, true, true, true, true, true, true, true, true, true, true, true, true, true, true, true, true, true, true, true, true, true, true, true, true, true, true, true, true, true, true, true, true, false, false] rfl rfl (any_of HT_.out (by kernel_rfl)) (fun _ _ _ h => h) (Or.inl ⟨by rfl, ?_⟩) ?_ ?_
  rotate_left
  · intro w'
    go_simp
    with_reducible rfl
  rotate_left
  · simp only [Act.put, List.setIfInBounds_toArray, List.set_cons_zero, List.set_cons_succ]
    rfl
  refine one_ (i := 33) (N := some 10) #[true, true, true, true, true, true, true, true, true, true, true, true, true, true, true, true, true, true, true, true, true, true, true, true, true, true, true, true, true, true, true, true, true, true, false] rfl rfl (one_of HT_.out (by kernel_rfl)) (by decide) (fun K hK => ?_)
  refine value_ (v := .pointer (some ⟨w.heap.size, 0, none⟩)) (w1 := (w.alloc (.cells #[.int .i64 0, .int .i64 0, .int .i64 0, .int .i64 0] 56)).drew) (by rfl) rfl ?_ ?_
  · go_simp
  have hb1 : Below w.heap.size w ((w.alloc (.cells #[.int .i64 0, .int .i64 0, .int .i64 0, .int .i64 0] 56)).drew) := below_drew1 (below_alloc (Below.refl _ _) _)
  have hn1 : ((w.alloc (.cells #[.int .i64 0, .int .i64 0, .int .i64 0, .int .i64 0] 56)).drew).heap[w.heap.size]? = some (.cells #[.int .i64 0, .int .i64 0, .int .i64 0, .int .i64 0] 56 (0, 0)) := heap_alloc_new w _
  have hkeep : ∀ p v, w.cell? p = some v → ((w.alloc (.cells #[.int .i64 0, .int .i64 0, .int .i64 0, .int .i64 0] 56)).drew).cell? p = some v := fun p v h => (hb1.cell (World.block_lt_of_cell? w _ h)).trans h
  have hS1 := And.intro (hkeep _ _ hx) (And.intro (hkeep _ _ hx2) (And.intro (hkeep _ _ y1) (And.intro (hkeep _ _ y2) (And.intro (hkeep _ _ y3) (hkeep _ _ y4)))))
  refine hK.out _ _ hS1 (fun _ => ?_)
  clear hK K hkeep hS1 hHeld hx hx2 y1 y2 y3 y4
  generalize (w.alloc (.cells #[.int .i64 0, .int .i64 0, .int .i64 0, .int .i64 0] 56)).drew = w1 at hb1 hn1 ⊢
  refine norm_ (a' := ?_) ?_ ?_
  rotate_left
  · simp only [Act.put, List.setIfInBounds_toArray, List.set_cons_zero, List.set_cons_succ]
    rfl
  refine last_ (i := 34) (N := none) #[true, true, true, true, true, true, true, true, true, true, true, true, true, true, true, true, true, true, true, true, true, true, true, true, true, true, true, true, true, true, true, true, true, true, true] rfl rfl (one_of HT_.out (by kernel_rfl)) (by decide) (fun K hK => ?_)
  have b1 := blk_put hn1 0 (.int .i64 x1) rfl
  have b2 := blk_put b1 1 (.int .i64 x2) rfl
  have b3 := blk_put b2 2 (.int .i64 x4) rfl
  have b4 := blk_put b3 3 (.int .i64 x3) rfl
  have k0 := blk_cell hn1 0
  have f0 := blk_frozen hn1 0
  have k1 := blk_cell b1 1
  have f1 := blk_frozen b1 1
  have k2 := blk_cell b2 2
  have f2 := blk_frozen b2 2
  have k3 := blk_cell b3 3
  have f3 := blk_frozen b3 3
  have hb2 := (((hb1.setCell (p := ⟨w.heap.size, 0, none⟩) (Nat.le_refl _) (.int .i64 x1)).setCell (p := ⟨w.heap.size, 1, none⟩) (Nat.le_refl _) (.int .i64 x2)).setCell (p := ⟨w.heap.size, 2, none⟩) (Nat.le_refl _) (.int .i64 x4)).setCell (p := ⟨w.heap.size, 3, none⟩) (Nat.le_refl _) (.int .i64 x3)
  simp only [List.getElem?_toArray, List.getElem?_cons_zero, List.getElem?_cons_succ, List.setIfInBounds_toArray, List.set_cons_zero, List.set_cons_succ] at k0 k1 k2 k3 b4
  refine skip_ (w1 := (((w1.setCell ⟨w.heap.size, 0, none⟩ (.int .i64 x1)).setCell ⟨w.heap.size, 1, none⟩ (.int .i64 x2)).setCell ⟨w.heap.size, 2, none⟩ (.int .i64 x4)).setCell ⟨w.heap.size, 3, none⟩ (.int .i64 x3)) (by rfl) rfl ?_ ?_
  · go_simp
  refine hK.out _ _ ?_
  refine done_ (done_of HT_.out (by kernel_rfl)) ?_
  clear hK K b1 b2 b3 k0 k1 k2 k3 f0 f1 f2 f3 hb1 hn1 HT_ HW_
  generalize (((w1.setCell ⟨w.heap.size, 0, none⟩ (.int .i64 x1)).setCell ⟨w.heap.size, 1, none⟩ (.int .i64 x2)).setCell ⟨w.heap.size, 2, none⟩ (.int .i64 x4)).setCell ⟨w.heap.size, 3, none⟩ (.int .i64 x3) = w2 at b4 hb2 ⊢
  have k0 := blk_cell b4 0
  have k1 := blk_cell b4 1
  have k2 := blk_cell b4 2
  have k3 := blk_cell b4 3
  simp only [List.getElem?_toArray, List.getElem?_cons_zero, List.getElem?_cons_succ] at k0 k1 k2 k3
  clear b4
  go_wp2_with fail
  clear k0 k1 k2 k3
  have HB := Aside0.mk hb2
  clear hb2
  go_loop [9, 47] (fun v9 v47 => ∃ k : Nat, k ≤ 4 ∧ v47 = .int .i64 k ∧ v9 = .int .i64 (sqN lv x1 x2 x4 x3 k)) (fun _ v47 => 4 - (intOf v47).toNat)
  case atStart => exact ⟨0, by omega, rfl, rfl⟩
  case round =>
    obtain ⟨k, hk, rfl, rfl⟩ := hrel
    have hr := sqN_range lv x1 x2 x4 x3 k
    by_cases hlt : k < 4
    · obtain rfl | rfl | rfl | rfl : k = 0 ∨ k = 1 ∨ k = 2 ∨ k = 3 := by omega
      · have hs := sqN_1 lv x1 x2 x4 x3
        generalize sqN lv x1 x2 x4 x3 0 = M at *
        simp only [Int.natCast_zero, Int.cast_ofNat_Int]
        by_cases c : lv ≤ x1
        · rw [if_pos c] at hs
          have HS := Aside0.mk hs
          clear hs
          go_wp2_with (refine sq_yield (some 50) rfl rfl (.int .i64 x1) (by go_simp; rfl) ?_)
          go_round
          case rel => exact ⟨1, by omega, by go_num, by rw [HS.out]⟩
          case measure => simp [intOf]
        · rw [if_neg c] at hs
          have HS := Aside0.mk hs
          clear hs
          go_wp2_with (refine sq_yield (some 50) rfl rfl (.int .i64 x1) (by go_simp; rfl) ?_)
          go_round
          case rel => exact ⟨1, by omega, by go_num, by rw [HS.out, Int.add_zero]⟩
          case measure => simp [intOf]
      · have hs := sqN_2 lv x1 x2 x4 x3
        generalize sqN lv x1 x2 x4 x3 1 = M at *
        simp only [Int.natCast_zero, Int.cast_ofNat_Int]
        by_cases c : lv ≤ x2
        · rw [if_pos c] at hs
          have HS := Aside0.mk hs
          clear hs
          go_wp2_with (refine sq_yield (some 50) rfl rfl (.int .i64 x2) (by go_simp; rfl) ?_)
          go_round
          case rel => exact ⟨2, by omega, by go_num, by rw [HS.out]⟩
          case measure => simp [intOf]
        · rw [if_neg c] at hs
          have HS := Aside0.mk hs
          clear hs
          go_wp2_with (refine sq_yield (some 50) rfl rfl (.int .i64 x2) (by go_simp; rfl) ?_)
          go_round
          case rel => exact ⟨2, by omega, by go_num, by rw [HS.out, Int.add_zero]⟩
          case measure => simp [intOf]
      · have hs := sqN_3 lv x1 x2 x4 x3
        generalize sqN lv x1 x2 x4 x3 2 = M at *
        simp only [Int.natCast_zero, Int.cast_ofNat_Int]
        by_cases c : lv ≤ x4
        · rw [if_pos c] at hs
          have HS := Aside0.mk hs
          clear hs
          go_wp2_with (refine sq_yield (some 50) rfl rfl (.int .i64 x4) (by go_simp; rfl) ?_)
          go_round
          case rel => exact ⟨3, by omega, by go_num, by rw [HS.out]⟩
          case measure => simp [intOf]
        · rw [if_neg c] at hs
          have HS := Aside0.mk hs
          clear hs
          go_wp2_with (refine sq_yield (some 50) rfl rfl (.int .i64 x4) (by go_simp; rfl) ?_)
          go_round
          case rel => exact ⟨3, by omega, by go_num, by rw [HS.out, Int.add_zero]⟩
          case measure => simp [intOf]
      · have hs := sqN_4 lv x1 x2 x4 x3
        generalize sqN lv x1 x2 x4 x3 3 = M at *
        simp only [Int.natCast_zero, Int.cast_ofNat_Int]
        by_cases c : lv ≤ x3
        · rw [if_pos c] at hs
          have HS := Aside0.mk hs
          clear hs
          go_wp2_with (refine sq_yield (some 50) rfl rfl (.int .i64 x3) (by go_simp; rfl) ?_)
          go_round
          case rel => exact ⟨4, by omega, by go_num, by rw [HS.out]⟩
          case measure => simp [intOf]
        · rw [if_neg c] at hs
          have HS := Aside0.mk hs
          clear hs
          go_wp2_with (refine sq_yield (some 50) rfl rfl (.int .i64 x3) (by go_simp; rfl) ?_)
          go_round
          case rel => exact ⟨4, by omega, by go_num, by rw [HS.out, Int.add_zero]⟩
          case measure => simp [intOf]
    · obtain rfl : k = 4 := by omega
      go_wp2_with fail
      go_ret
      exact ⟨rfl, HB.out⟩
set_option maxHeartbeats 4000000 in
theorem impl_squareCase.calls (A0 : Option Addr) (c0 : Nat) (l0 : List (List Int)) (a1 : Int) (a2 : Int) (a3 : Int) (r : Int) (w : World) (hr0 : Kd.C (Kd.slice 3 (Kd.int .i64)) w A0 l0.length l0) (hc0 : l0.length ≤ c0) (h : impl_squareCase.f l0 a1 a2 a3 = some r) :
    Calls Try.prog 45 #[.slice A0 l0.length c0, .int .i64 a1, .int .i64 a2, .int .i64 a3] w fun e w' => e = .returned (.int .i64 r) ∧ Below w.heap.size w w' := by
  unfold impl_squareCase.f at h
  split at h
  · rename_i hg
    obtain ⟨h1, h2, h3, h4, h5, h6, h7⟩ := hg
    obtain rfl := Option.some.inj h
    obtain ⟨i, rfl⟩ := Int.eq_ofNat_of_zero_le h1
    obtain ⟨j, rfl⟩ := Int.eq_ofNat_of_zero_le h3
    have e1 : ((i : Int) + 1) = ((i + 1 : Nat) : Int) := by omega
    have e2 : ((j : Int) + 1) = ((j + 1 : Nat) : Int) := by omega
    have hi : i + 1 < l0.length := by omega
    rw [e1, sqRow_get hi] at h7
    rw [sqRow_get (show i < l0.length by omega)] at h6
    have hw := sq_walk l0 A0 c0 a1 i j w hr0 hc0 (by omega) (by omega) hi (by omega) (by omega)
    rw [e1, e2, sqRow_get hi, sqRow_get (show i < l0.length by omega), sqInt_get (show j < l0[i].length by omega), sqInt_get (show j + 1 < l0[i].length by omega), sqInt_get (show j < l0[i + 1].length by omega), sqInt_get (show j + 1 < l0[i + 1].length by omega)]
    exact hw
  · cases h

end Go.Proofs.Ytkhemhmdapggmaa.P
