import Derived.Test.YtfonigbkoligmaaPx0
import Derived.Test.YtfonigbkoligmaaPx4
namespace Go.Proofs.Ytfonigbkoligmaa.P
open Go.RowKit Go.Proofs.YtfonigbkoligmaaW.PrintWords Go.Proofs.YtfonigbkoligmaaW.PrintLast Go.Proofs.YtfonigbkoligmaaW.PrintMore
attribute [local go_sem] max2_int min2_int max_two min_two max_three min_three max_four min_four
set_option linter.unusedVariables false
set_option linter.unusedSimpArgs false
def plX (l : List S33) (i : Nat) : Int := (rd_T33 l (i : Int)).f0
def plY (l : List S33) (i : Nat) : Int := (rd_T33 l (i : Int)).f1
structure Chain (W : World) (base j : Nat) (bs : Nat → Nat) (X Y : Nat → Int) : Prop where
 link : ∀ i, i < j → W.heap[bs i]? = some (.cells #[.int .i64 (X i), .int .i64 (Y i), .pointer (some ⟨bs (i + 1), 0, none⟩)] 75 (0, 0))
 last : W.heap[bs j]? = some (.cells #[.int .i64 (X j), .int .i64 (Y j), .pointer none] 75 (0, 0))
 up : ∀ i, i < j → bs i < bs (i + 1)
 base_ : base ≤ bs 0
theorem Chain.le {W : World} {base j : Nat} {bs : Nat → Nat} {X Y : Nat → Int} (h : Chain W base j bs X Y) : ∀ i, i ≤ j → bs 0 ≤ bs i ∧ bs i ≤ bs j ∧ bs 0 + i ≤ bs i := by
 have up : ∀ d i, i + d ≤ j → bs i + d ≤ bs (i + d) := by
  intro d
  induction d with
  | zero => intro i _; exact Nat.le_refl _
  | succ d ih => intro i hi; have := ih i (by omega); have := h.up (i + d) (by omega); show bs i + (d + 1) ≤ bs (i + d + 1); omega
 intro i hi
 have h1 := up i 0 (by omega)
 have h2 := up (j - i) i (by omega)
 rw [Nat.zero_add] at h1
 rw [show i + (j - i) = j by omega] at h2
 omega
theorem Chain.below {A B : World} {base j : Nat} {bs : Nat → Nat} {X Y : Nat → Int} (h : Chain A base j bs X Y) (hb : Below A.heap.size A B) : Chain B base j bs X Y :=
 ⟨fun i hi => (hb.block _ (blk_lt (h.link i hi))).trans (h.link i hi), (hb.block _ (blk_lt h.last)).trans h.last, h.up, h.base_⟩
theorem Chain.step {A : World} {base j nb : Nat} {bs : Nat → Nat} {X Y : Nat → Int} (h : Chain A base j bs X Y) (hn : A.heap[nb]? = some (.cells #[.int .i64 (X (j + 1)), .int .i64 (Y (j + 1)), .pointer none] 75 (0, 0))) (hlt : bs j < nb) :
  Chain (A.setCell ⟨bs j, 2, none⟩ (.pointer (some ⟨nb, 0, none⟩))) base (j + 1) (fun i => if i = j + 1 then nb else bs i) X Y := by
 have hle := h.le
 refine ⟨fun i hi => ?_, ?_, fun i hi => ?_, ?_⟩
 ·by_cases e : i = j
  ·subst e
   simp only [if_neg (show ¬ i = i + 1 by omega), if_true]
   exact blk_put h.last 2 _ rfl
  ·have h1 := hle i (by omega)
   have h2 := hle (i + 1) (by omega)
   have h3 := h.up i (by omega)
   simp only [if_neg (show ¬ i = j + 1 by omega), if_neg (show ¬ i + 1 = j + 1 by omega)]
   exact blk_far (p := ⟨bs j, 2, none⟩) (h.link i (by omega)) (by show bs i ≠ bs j; omega) _
 ·simp only [if_true]
  exact blk_far (p := ⟨bs j, 2, none⟩) hn (by show nb ≠ bs j; omega) _
 ·by_cases e : i = j
  ·subst e
   simp only [if_neg (show ¬ i = i + 1 by omega), if_true]; exact hlt
  ·simp only [if_neg (show ¬ i = j + 1 by omega), if_neg (show ¬ i + 1 = j + 1 by omega)]
   exact h.up i (by omega)
 ·simp only [if_neg (show ¬ 0 = j + 1 by omega)]; exact h.base_
theorem Chain.ring {A : World} {base n : Nat} {bs : Nat → Nat} {X Y : Nat → Int} (h : Chain A base n bs X Y) : Ring (A.setCell ⟨bs n, 2, none⟩ (.pointer (some ⟨bs 0, 0, none⟩))) A.heap.size (n + 1) bs X Y := by
 have hle := h.le
 refine ⟨by omega, fun i hi => ?_, fun i hi => ?_, fun i j hi hj e => ?_⟩
 ·have := hle i (by omega); have := blk_lt h.last; omega
 ·by_cases e : i = n
  ·subst e
   rw [Nat.mod_self]
   exact blk_put h.last 2 _ rfl
  ·rw [Nat.mod_eq_of_lt (by omega)]
   have h3 := h.up i (by omega)
   have h4 := hle (i + 1) (by omega)
   exact blk_far (p := ⟨bs n, 2, none⟩) (h.link i (by omega)) (by show bs i ≠ bs n; omega) _
 ·have up : ∀ d i, i + d ≤ n → bs i + d ≤ bs (i + d) := by
   intro d
   induction d with
   | zero => intro i _; exact Nat.le_refl _
   | succ d ih => intro i hi; have := ih i (by omega); have := h.up (i + d) (by omega); show bs i + (d + 1) ≤ bs (i + d + 1); omega
  by_cases hij : i ≤ j
  ·have := up (j - i) i (by omega)
   rw [show i + (j - i) = j by omega] at this; omega
  ·have := up (i - j) j (by omega)
   rw [show j + (i - j) = i by omega] at this; omega
set_option maxHeartbeats 4000000 in
theorem outlineOf_no (k : Nat) (A : Option Addr) (c : Nat) (l : List S33) (w : World) (hr0 : Kd.C k33 w A l.length l) (hc0 : l.length ≤ c) (hv : impl_cornersValid.f k l = some false) :
  Calls Try.prog 37 #[.slice A l.length c] w fun e w' => e = .returned (.tuple #[.agg #[.pointer none, .int .i64 0], .bool false]) ∧ Below w.heap.size w w' := by
 have HR := Aside0.mk hr0
 have HC := Aside0.mk hc0
 have HV := Aside0.mk hv
 have HM := Aside0.mk (Hd.nil w)
 clear hr0 hc0 hv
 go_enter Try.func37, Try.ntmps37
 go_wp2_with (first | ((with_reducible refine gate_dst (N := 2) rfl ?_); refine bx_ 2 (cs := #[.pointer none, .int .i64 0]) (t := 58) ?_; intro g2 e_ w1 b_ hb; replace HM := Aside0.mk (HM.out.box hb b_ e_); clear e_ b_ hb) | (go_at_call 63; have hbel := HM.out.1; (with_reducible refine (impl_cornersValid.calls k _ _ l false _ (Kd.C_below HR.out hbel) HC.out HV.out).mono ?_); rintro e w3 ⟨rfl, hb⟩; clear hbel; replace HM := Aside0.mk (HM.out.keep hb); clear hb; have c0 : w3.cell? ⟨g2, 0, none⟩ = some (.pointer none) := blk_cell HM.out.a0 0; have c1 : w3.cell? ⟨g2, 1, none⟩ = some (.int .i64 0) := blk_cell HM.out.a0 1; have f0 := blk_frozen HM.out.a0 0; have f1 := blk_frozen HM.out.a0 1))
 have HZ := HM.out.put2 (.pointer none) (.int .i64 0)
 exact bodyPost_ret (results_ct rfl _ _ g2 58 #[.pointer none, .int .i64 0] (0, 0) _ rfl HZ.a0 Try.underlying58 rfl (by kernel_rfl)) rfl ⟨rfl, HZ.1⟩
set_option maxHeartbeats 8000000 in
set_option maxRecDepth 100000 in
theorem outlineOf_yes (k : Nat) (A : Option Addr) (c : Nat) (l : List S33) (w : World) (hr0 : Kd.C k33 w A l.length l) (hc0 : l.length ≤ c) (hv : impl_cornersValid.f k l = some true) (hl3 : 3 ≤ l.length) (hl12 : l.length ≤ 12) :
  Calls Try.prog 37 #[.slice A l.length c] w fun e w' => ∃ bs, e = .returned (.tuple #[.agg #[.pointer (some ⟨bs 0, 0, none⟩), .int .i64 (l.length : Int)], .bool true]) ∧ Ring w' w'.heap.size l.length bs (plX l) (plY l) ∧ Below w.heap.size w w' := by
 have HR := Aside0.mk hr0
 have HC := Aside0.mk hc0
 have HV := Aside0.mk hv
 have HM := Aside0.mk (Hd.nil w)
 obtain ⟨ad, eA, x0, y0⟩ := at_T33 hr0 0 (by omega) (by omega)
 subst eA
 have HX : Aside0 (w.cell? ad = some (.int .i64 (plX l 0))) := ⟨by simpa [plX, Addr.add] using x0⟩
 have HY : Aside0 (w.cell? ⟨ad.block, ad.off + 1, none⟩ = some (.int .i64 (plY l 0))) := ⟨by simpa [plY, Addr.add] using y0⟩
 clear hr0 hv x0 y0
 go_enter Try.func37, Try.ntmps37
 go_wp2_with (first | ((with_reducible refine gate_dst (N := 2) rfl ?_); refine bx_ 2 (cs := #[.pointer none, .int .i64 0]) (t := 58) ?_; intro g2 e_ w1 b_ hb; replace HM := Aside0.mk (HM.out.box hb b_ e_); clear e_ b_ hb) | (go_at_call 63; have hbel := HM.out.1; (with_reducible refine (impl_cornersValid.calls k _ _ l true _ (Kd.C_below HR.out hbel) HC.out HV.out).mono ?_); rintro e w3 ⟨rfl, hb⟩; clear hbel; replace HM := Aside0.mk (HM.out.keep hb); clear hb; have x0 := (HM.out.1.cell (World.block_lt_of_cell? w _ HX.out)).trans HX.out; have y0 := (HM.out.1.cell (World.block_lt_of_cell? w _ HY.out)).trans HY.out) | ((with_reducible refine gate_dst (N := 16) rfl ?_); refine bx_ 16 (cs := #[.int .i64 (plX l 0), .int .i64 (plY l 0), .pointer none]) (t := 75) ?_; intro b0 e_ w4 b_ hb; replace HM := Aside0.mk (HM.out.box hb b_ e_); clear e_ b_ hb x0 y0))
 have hg0 := HM.out.below (e := (g2, #[.pointer none, .int .i64 0], 58)) (by simp)
 have hgw := (HM.out.2.1 (g2, #[.pointer none, .int .i64 0], 58) (by simp)).1
 have HC0 : Chain w4 (g2 + 1) 0 (fun _ => b0) (plX l) (plY l) := ⟨fun i hi => by omega, HM.out.a0, fun i hi => by omega, by simp only [] at hg0; omega⟩
 have HG0 := HM.out.a1
 have HB0 := HM.out.1
 simp only [] at hgw
 clear HM hg0
 have hcl := HC.out
 go_loopg [5, 21] (l.length - 1) (fun kq v5 v21 wr => ∃ (j : Nat) (bs : Nat → Nat), v5 = .pointer (some ⟨bs j, 0, none⟩) ∧ v21 = .int .i64 (j : Int) ∧ Aside0 (bs 0 = b0) ∧ Aside0 (j + kq = l.length - 1) ∧ Aside0 (Chain wr (g2 + 1) j bs (plX l) (plY l)) ∧ Aside0 (wr.heap[g2]? = some (.cells #[.pointer none, .int .i64 0] 58 (0, 0))) ∧ Aside0 (Below w.heap.size w wr))
 case atStart => exact ⟨0, fun _ => b0, rfl, rfl, ⟨rfl⟩, ⟨by omega⟩, ⟨HC0⟩, ⟨HG0⟩, ⟨HB0⟩⟩
 case round =>
  clear HC0 HG0 HB0
  obtain ⟨j, bs, rfl, rfl, HB00, HJ, HCH, HG, HB⟩ := hrel
  have hj := HJ.out
  by_cases hlt : j < l.length - 1
  ·cases gk with
   | zero => exfalso; omega
   | succ gk =>
    obtain ⟨ad', e', x1, y1⟩ := at_T33 HR.out ((j + 1 : Nat) : Int) (by omega) (by omega)
    cases e'
    rw [Int.toNat_natCast, show (j + 1) * 2 = (j * 2 + 1) + 1 by omega] at x1 y1
    have x2 : w.cell? ⟨ad.block, ad.off + 2 + j * 2, none⟩ = some (.int .i64 (plX l (j + 1))) := by
     rw [show ad.off + 2 + j * 2 = ad.off + (j * 2 + 1 + 1) by omega]; exact x1
    have y2 : w.cell? ⟨ad.block, ad.off + 2 + j * 2 + 1, none⟩ = some (.int .i64 (plY l (j + 1))) := by
     rw [show ad.off + 2 + j * 2 = ad.off + (j * 2 + 1 + 1) by omega]; exact y1
    replace x2 := (HB.out.cell (World.block_lt_of_cell? w _ x2)).trans x2
    replace y2 := (HB.out.cell (World.block_lt_of_cell? w _ y2)).trans y2
    clear x1 y1
    have hd1 : decide ((j : Int) < ((l.length - 1 : Nat) : Int)) = true := decide_eq_true (by omega)
    have hd2 : ((j : Int) < ((l.length - 1 : Nat) : Int)) = True := eq_true (by omega)
    have hd3 : ((0 : Int) ≤ (j : Int)) = True := eq_true (by omega)
    have hwr : IntKind.i64.wrap ((j : Int) + 1) = ((j + 1 : Nat) : Int) := by rw [IntKind.wrap_i64]; push_cast; omega
    have HM := Aside0.mk (Hd.nil wr)
    go_wp2_with (first | ((with_reducible refine gate_dst (N := 7) rfl ?_); refine bx_ 7 (cs := #[.int .i64 0, .int .i64 0]) (t := 33) ?_; intro gp e_ w5 b_ hb; replace HM := Aside0.mk (HM.out.box hb b_ e_); clear e_ b_; replace x2 := (hb.cell (World.block_lt_of_cell? wr _ x2)).trans x2; replace y2 := (hb.cell (World.block_lt_of_cell? wr _ y2)).trans y2; clear hb; have p0 : w5.cell? ⟨gp, 0, none⟩ = some (.int .i64 0) := blk_cell HM.out.a0 0; have p1 : w5.cell? ⟨gp, 1, none⟩ = some (.int .i64 0) := blk_cell HM.out.a0 1; have f0 := blk_frozen HM.out.a0 0; have f1 := blk_frozen HM.out.a0 1) | ((with_reducible refine gate_dst (N := 28) rfl ?_); refine bx_ 28 (cs := #[.int .i64 (plX l (j + 1)), .int .i64 (plY l (j + 1)), .pointer none]) (t := 75) ?_; intro nb e_ w6 b_ hb; have HM2 := Aside0.mk ((HM.out.put2 (.int .i64 (plX l (j + 1))) (.int .i64 (plY l (j + 1)))).box hb b_ e_); clear e_ b_ hb; have HC6 := Aside0.mk (HCH.out.below HM2.out.1); have k2 : w6.cell? ⟨bs j, 2, none⟩ = some (.pointer none) := blk_cell HC6.out.last 2; have kf := blk_frozen HC6.out.last 2; have k3 : (w6.setCell ⟨bs j, 2, none⟩ (.pointer (some ⟨nb, 0, none⟩))).cell? ⟨bs j, 2, none⟩ = some (.pointer (some ⟨nb, 0, none⟩)) := blk_cell (blk_put HC6.out.last 2 _ rfl) 2))
    have hle := HCH.out.le j (Nat.le_refl _)
    have hbase := HCH.out.base_
    have hlt6 := blk_lt HCH.out.last
    have hnb := (HM2.out.2.1 (nb, #[.int .i64 (plX l (j + 1)), .int .i64 (plY l (j + 1)), .pointer none], 75) (by simp)).1
    simp only [] at hnb
    go_roundg gk
    case measure => omega
    case rel =>
     refine ⟨j + 1, fun i => if i = j + 1 then nb else bs i, by simp, by first | rfl | rw [hwr], ⟨by simp only [if_neg (show ¬ 0 = j + 1 by omega)]; exact HB00.out⟩, ⟨by omega⟩, ⟨HC6.out.step HM2.out.a0 (by omega)⟩, ⟨?_⟩, ⟨?_⟩⟩
     ·exact blk_far (p := ⟨bs j, 2, none⟩) ((HM2.out.1.block g2 (blk_lt HG.out)).trans HG.out) (by show g2 ≠ bs j; omega) _
     ·exact (HB.out.trans (HM2.out.1.mono HB.out.size)).setCell (p := ⟨bs j, 2, none⟩) (by show w.heap.size ≤ bs j; omega) _
  ·have hjn : j + 1 = l.length := by omega
   have hd1 : decide ((j : Int) < ((l.length - 1 : Nat) : Int)) = false := decide_eq_false (by omega)
   have hle := HCH.out.le j (Nat.le_refl _)
   have hle0 := HCH.out.le
   have hbase := HCH.out.base_
   have HRG := Aside0.mk HCH.out.ring
   rw [HB00.out, hjn] at HRG
   have k2 : wr.cell? ⟨bs j, 2, none⟩ = some (.pointer none) := blk_cell HCH.out.last 2
   have kf := blk_frozen HCH.out.last 2
   have hgx := blk_far (p := ⟨bs j, 2, none⟩) HG.out (by show g2 ≠ bs j; omega) (.pointer (some ⟨b0, 0, none⟩))
   have c0 : (wr.setCell ⟨bs j, 2, none⟩ (.pointer (some ⟨b0, 0, none⟩))).cell? ⟨g2, 0, none⟩ = some (.pointer none) := blk_cell hgx 0
   have c1 : (wr.setCell ⟨bs j, 2, none⟩ (.pointer (some ⟨b0, 0, none⟩))).cell? ⟨g2, 1, none⟩ = some (.int .i64 0) := blk_cell hgx 1
   have f0 := blk_frozen hgx 0
   have f1 := blk_frozen hgx 1
   have HGX := Aside0.mk hgx
   clear hgx
   go_wp2_with fail
   have hg3 := blk_put (blk_put HGX.out 0 (.pointer (some ⟨b0, 0, none⟩)) rfl) 1 (.int .i64 (l.length : Int)) rfl
   refine bodyPost_ret (results_ct rfl _ _ g2 58 #[.pointer (some ⟨b0, 0, none⟩), .int .i64 (l.length : Int)] (0, 0) _ rfl hg3 Try.underlying58 rfl (by kernel_rfl)) rfl ⟨bs, ?_, ?_, ?_⟩
   ·rw [HB00.out]; rfl
   ·have h1 := (HRG.out.far (g := g2) (fun i hi => by have := hle0 i (by omega); omega) 0 (.pointer (some ⟨b0, 0, none⟩))).far (g := g2) (fun i hi => by have := hle0 i (by omega); omega) 1 (.int .i64 (l.length : Int))
    simpa [World.setCell] using h1
   ·exact ((HB.out.setCell (p := ⟨bs j, 2, none⟩) (by show w.heap.size ≤ bs j; omega) _).setCell (p := ⟨g2, 0, none⟩) hgw _).setCell (p := ⟨g2, 1, none⟩) hgw _
def vdB (l : List S33) : Bool := decide (3 ≤ l.length) && (decide (l.length ≤ 12) && (List.range l.length).all fun i => inR (plX l i) (plY l i) 10000)
theorem vdB_iff {l : List S33} : vdB l = true ↔ 3 ≤ l.length ∧ l.length ≤ 12 ∧ ∀ i, i < l.length → inR (plX l i) (plY l i) 10000 = true := by
 unfold vdB
 rw [Bool.and_eq_true, Bool.and_eq_true, decide_eq_true_iff, decide_eq_true_iff, List.all_eq_true]
 simp only [List.mem_range]
theorem vd_loop (l : List S33) (h12 : l.length ≤ 12) : ∀ m i : Nat, i + m = l.length → impl_cornersValid.l0 (m + 1) l (l.length : Int) (i : Int) = some ((List.range' i m).all fun i => inR (plX l i) (plY l i) 10000) := by
 intro m
 induction m with
 | zero => intro i hi; simp only [impl_cornersValid.l0]; rw [if_neg (by omega)]; rfl
 | succ m ih =>
  intro i hi
  rw [impl_cornersValid.l0, if_pos (by omega), if_pos (by omega), if_pos (by omega), List.range'_succ, List.all_cons]
  unfold impl_PointValid.f
  rw [Option.bind_some]
  have e : wrap64 ((i : Int) + 1) = ((i + 1 : Nat) : Int) := by unfold wrap64; omega
  rw [e]
  cases hv : inR (plX l i) (plY l i) 10000 with
  | false =>
   have hv' : inR (rd_T33 l (i : Int)).f0 (rd_T33 l (i : Int)).f1 10000 = false := hv
   rw [hv', if_neg (by simp), Bool.false_and]
  | true =>
   have hv' : inR (rd_T33 l (i : Int)).f0 (rd_T33 l (i : Int)).f1 10000 = true := hv
   rw [hv', if_pos rfl, Bool.true_and]
   exact ih (i + 1) (by omega)
theorem vd_f (l : List S33) : ∃ k, impl_cornersValid.f k l = some (vdB l) := by
 unfold impl_cornersValid.f vdB
 by_cases h3 : l.length < 3
 ·exact ⟨1, by rw [if_pos (by omega), impl_cornersValid.j0, if_pos rfl, decide_eq_false (by omega)]; rfl⟩
 ·by_cases h12 : l.length > 12
  ·exact ⟨1, by rw [if_neg (by omega), impl_cornersValid.j0, decide_eq_true (by omega), if_pos rfl, decide_eq_true (by omega), decide_eq_false (by omega)]; rfl⟩
  ·exact ⟨l.length + 1 + 1, by
    rw [if_neg (by omega), impl_cornersValid.j0, decide_eq_false (by omega), if_neg (by simp), decide_eq_true (by omega), decide_eq_true (by omega), Bool.true_and, Bool.true_and, List.range_eq_range']
    exact vd_loop l (by omega) l.length 0 (by omega)⟩
def impl_signInt.f (a0 : Int) : Option (Int) := if a0 < 0 then (some (-1)) else (if a0 > 0 then (some 1) else (some 0))
set_option maxHeartbeats 8000000 in
set_option maxRecDepth 100000 in
theorem impl_signInt.calls (a0 : Int) (r : Int) (w : World) (h : impl_signInt.f a0 = some r) :
  Calls Try.prog 64 #[.int .i64 a0] w fun e w' => e = .returned (.int .i64 r) ∧ Drawn0 w w' := by
 have H : (if a0 < 0 then (some (-1)) else (if a0 > 0 then (some 1) else (some 0))) = some r := h
 clear h
 by_cases c2 : a0 < 0
 ·rw [if_pos c2] at H
  have c2b0 : decide (a0 < 0) = true := decide_eq_true c2
  clear c2
  obtain rfl := Option.some.inj H
  go_enter Try.func64, Try.ntmps64
  go_wp2
  go_ret
  exact ⟨by first | rfl | (simp; done) | (simp [*]; done), by repeat (first | exact Drawn0.refl _ | apply Drawn0.step)⟩
 ·rw [if_neg c2] at H
  have c2b0 : decide (a0 < 0) = false := decide_eq_false c2
  clear c2
  by_cases c3 : a0 > 0
  ·rw [if_pos c3] at H
   have c3b0 : decide (0 < a0) = true := decide_eq_true c3
   clear c3
   obtain rfl := Option.some.inj H
   go_enter Try.func64, Try.ntmps64
   go_wp2
   go_ret
   exact ⟨by first | rfl | (simp; done) | (simp [*]; done), by repeat (first | exact Drawn0.refl _ | apply Drawn0.step)⟩
  ·rw [if_neg c3] at H
   have c3b0 : decide (0 < a0) = false := decide_eq_false c3
   clear c3
   obtain rfl := Option.some.inj H
   go_enter Try.func64, Try.ntmps64
   go_wp2
   go_ret
   exact ⟨by first | rfl | (simp; done) | (simp [*]; done), by repeat (first | exact Drawn0.refl _ | apply Drawn0.step)⟩
def sgI (x : Int) : Int := if x < 0 then -1 else if x > 0 then 1 else 0
theorem sgI_f (x : Int) : impl_signInt.f x = some (sgI x) := by unfold impl_signInt.f sgI; split <;> (try split) <;> rfl
def sdI (ax ay bx by_ cx cy : Int) : Int := sgI (crI (wrap64 (bx - ax)) (wrap64 (by_ - ay)) (wrap64 (cx - ax)) (wrap64 (cy - ay)))
def sdP (ax ay bx by_ cx cy : Int) : Int × Bool := if inR ax ay 10000 = true ∧ inR bx by_ 10000 = true ∧ inR cx cy 10000 = true then (sdI ax ay bx by_ cx cy, true) else (0, false)
set_option maxHeartbeats 4000000 in
theorem side_yes (ax ay bx by_ cx cy : Int) (h1 : inR ax ay 10000 = true) (h2 : inR bx by_ 10000 = true) (h3 : inR cx cy 10000 = true) (w : World) :
  Calls Try.prog 54 #[.agg #[.int .i64 ax, .int .i64 ay], .agg #[.int .i64 bx, .int .i64 by_], .agg #[.int .i64 cx, .int .i64 cy]] w fun e w' => e = .returned (.tuple #[.int .i64 (sdI ax ay bx by_ cx cy), .bool true]) ∧ Below w.heap.size w w' := by
 have H1 := Aside0.mk h1
 have H2 := Aside0.mk h2
 have H3 := Aside0.mk h3
 have HM := Aside0.mk (Hd.nil w)
 clear h1 h2 h3
 unfold sdI
 go_enter Try.func54, Try.ntmps54
 go_upto_region 3 with (first
  | ((with_reducible refine gate_dst (N := 3) rfl ?_); refine bx_ 3 (cs := #[.int .i64 ax, .int .i64 ay]) (t := 33) ?_; intro g3 e_ w_ b_ hb; replace HM := Aside0.mk (HM.out.box hb b_ e_); clear e_ b_ hb)
  | ((with_reducible refine gate_dst (N := 4) rfl ?_); refine bx_ 4 (cs := #[.int .i64 bx, .int .i64 by_]) (t := 33) ?_; intro g4 e_ w_ b_ hb; replace HM := Aside0.mk (HM.out.box hb b_ e_); clear e_ b_ hb)
  | ((with_reducible refine gate_dst (N := 5) rfl ?_); refine bx_ 5 (cs := #[.int .i64 cx, .int .i64 cy]) (t := 33) ?_; intro g5 e_ w_ b_ hb; replace HM := Aside0.mk (HM.out.box hb b_ e_); clear e_ b_ hb; have ka0 := blk_cell HM.out.a2 0; have ka1 := blk_cell HM.out.a2 1; have kb0 := blk_cell HM.out.a1 0; have kb1 := blk_cell HM.out.a1 1; have kc0 := blk_cell HM.out.a0 0; have kc1 := blk_cell HM.out.a0 1)
  | (go_at_call 68; (with_reducible refine (PointValid_calls ax ay _).mono ?_); rintro e w_ ⟨rfl, hb⟩; rw [H1.out]; replace HM := Aside0.mk (HM.out.keep hb); clear hb; (try clear ka0 ka1 kb0 kb1 kc0 kc1); have ka0 := blk_cell HM.out.a2 0; have ka1 := blk_cell HM.out.a2 1; have kb0 := blk_cell HM.out.a1 0; have kb1 := blk_cell HM.out.a1 1; have kc0 := blk_cell HM.out.a0 0; have kc1 := blk_cell HM.out.a0 1)
  | (go_at_call 68; (with_reducible refine (PointValid_calls bx by_ _).mono ?_); rintro e w_ ⟨rfl, hb⟩; rw [H2.out]; replace HM := Aside0.mk (HM.out.keep hb); clear hb; (try clear ka0 ka1 kb0 kb1 kc0 kc1); have ka0 := blk_cell HM.out.a2 0; have ka1 := blk_cell HM.out.a2 1; have kb0 := blk_cell HM.out.a1 0; have kb1 := blk_cell HM.out.a1 1; have kc0 := blk_cell HM.out.a0 0; have kc1 := blk_cell HM.out.a0 1)
  | (go_at_call 68; (with_reducible refine (PointValid_calls cx cy _).mono ?_); rintro e w_ ⟨rfl, hb⟩; rw [H3.out]; replace HM := Aside0.mk (HM.out.keep hb); clear hb; (try clear ka0 ka1 kb0 kb1 kc0 kc1); have ka0 := blk_cell HM.out.a2 0; have ka1 := blk_cell HM.out.a2 1; have kb0 := blk_cell HM.out.a1 0; have kb1 := blk_cell HM.out.a1 1; have kc0 := blk_cell HM.out.a0 0; have kc1 := blk_cell HM.out.a0 1))
 go_upto_region 4 with (go_at_call 40; (with_reducible refine (pairOf_calls ax ay _).mono ?_); rintro e w_ ⟨rfl, hb⟩; replace HM := Aside0.mk (HM.out.keep hb); clear hb; (try clear ka0 ka1 kb0 kb1 kc0 kc1); have ka0 := blk_cell HM.out.a2 0; have ka1 := blk_cell HM.out.a2 1; have kb0 := blk_cell HM.out.a1 0; have kb1 := blk_cell HM.out.a1 1; have kc0 := blk_cell HM.out.a0 0; have kc1 := blk_cell HM.out.a0 1)
 replace HM := Aside0.mk (HM.out.alloc #[.int .i64 ax, .int .i64 ay] 65)
 clear ka0 ka1 kb0 kb1 kc0 kc1
 generalize w_.alloc (.cells #[.int .i64 ax, .int .i64 ay] 65) = w8 at *
 generalize w_.heap.size = g8 at *
 generalize hp : wrap64 (bx - ax) = p at *
 generalize hq : wrap64 (by_ - ay) = q at *
 generalize hr : wrap64 (cx - ax) = r at *
 generalize hs : wrap64 (cy - ay) = s at *
 have HP := Aside0.mk hp
 have HQ := Aside0.mk hq
 have HR := Aside0.mk hr
 have HS := Aside0.mk hs
 clear hp hq hr hs
 have ka0 := blk_cell HM.out.a3 0
 have ka1 := blk_cell HM.out.a3 1
 have kb0 := blk_cell HM.out.a2 0
 have kb1 := blk_cell HM.out.a2 1
 have kc0 := blk_cell HM.out.a1 0
 have kc1 := blk_cell HM.out.a1 1
 have ks0 := blk_cell HM.out.a0 0
 have ks1 := blk_cell HM.out.a0 1
 go_cut [9] (fun v9 wc => ∃ B : Nat, v9 = .pointer (some ⟨B, 0, none⟩) ∧ Aside0 (Hd w wc [(B, #[.int .i64 p, .int .i64 q], 65), (g8, #[.int .i64 ax, .int .i64 ay], 65), (g5, #[.int .i64 cx, .int .i64 cy], 33), (g4, #[.int .i64 bx, .int .i64 by_], 33), (g3, #[.int .i64 ax, .int .i64 ay], 33)]))
 case first =>
  go_region_held3 (fun w' => w'.cell? ⟨g4, 0, none⟩ = some (.int .i64 bx) ∧ w'.cell? ⟨g4, 1, none⟩ = some (.int .i64 by_) ∧ w'.cell? ⟨g8, 0, none⟩ = some (.int .i64 ax) ∧ w'.cell? ⟨g8, 1, none⟩ = some (.int .i64 ay))
   (first
    | exact ⟨kb0, kb1, ks0, ks1⟩
    | exact ⟨blk_cell HM.out.drew.a2 0, blk_cell HM.out.drew.a2 1, blk_cell HM.out.drew.a0 0, blk_cell HM.out.drew.a0 1⟩
    | exact ⟨blk_cell (HM.out.alloc _ _).a3 0, blk_cell (HM.out.alloc _ _).a3 1, blk_cell (HM.out.alloc _ _).a1 0, blk_cell (HM.out.alloc _ _).a1 1⟩
    | exact ⟨blk_cell (HM.out.drew.alloc _ _).a3 0, blk_cell (HM.out.drew.alloc _ _).a3 1, blk_cell (HM.out.drew.alloc _ _).a1 0, blk_cell (HM.out.drew.alloc _ _).a1 1⟩
    | exact ⟨blk_cell (HM.out.put2 _ _).a3 0, blk_cell (HM.out.put2 _ _).a3 1, blk_cell (HM.out.put2 _ _).a1 0, blk_cell (HM.out.put2 _ _).a1 1⟩
    | exact ⟨blk_cell ((HM.out.alloc _ _).put2 _ _).a3 0, blk_cell ((HM.out.alloc _ _).put2 _ _).a3 1, blk_cell ((HM.out.alloc _ _).put2 _ _).a1 0, blk_cell ((HM.out.alloc _ _).put2 _ _).a1 1⟩
    | go_keep)
   (first
    | (go_at_call 40; (with_reducible refine (pairOf_calls bx by_ _).mono ?_); rintro e w_ ⟨rfl, hb⟩; (first | replace HM := Aside0.mk (HM.out.keep hb) | replace HM := Aside0.mk (HM.out.drew.keep hb) | replace HM := Aside0.mk ((HM.out.alloc #[.int .i64 0, .int .i64 0] 65).keep hb) | replace HM := Aside0.mk ((HM.out.allocDrew #[.int .i64 0, .int .i64 0] 65).keep hb)); clear hb; (try clear ka0); (try clear ka1); (try clear kc0); (try clear kc1); (try clear kn0); (try clear kn1); (try clear knf0); (try clear knf1); (try clear kb0); (try clear kb1); (try clear ks0); (try clear ks1); have kb0 : w_.cell? ⟨g4, 0, none⟩ = some (.int .i64 bx) := (by first | exact blk_cell HM.out.a2 0 | exact blk_cell HM.out.a3 0); have kb1 : w_.cell? ⟨g4, 1, none⟩ = some (.int .i64 by_) := (by first | exact blk_cell HM.out.a2 1 | exact blk_cell HM.out.a3 1); have ks0 : w_.cell? ⟨g8, 0, none⟩ = some (.int .i64 ax) := (by first | exact blk_cell HM.out.a0 0 | exact blk_cell HM.out.a1 0); have ks1 : w_.cell? ⟨g8, 1, none⟩ = some (.int .i64 ay) := (by first | exact blk_cell HM.out.a0 1 | exact blk_cell HM.out.a1 1); have kn0 := blk_cell HM.out.a0 0; have kn1 := blk_cell HM.out.a0 1; have knf0 := blk_frozen HM.out.a0 0; have knf1 := blk_frozen HM.out.a0 1)
    | (go_at_call 69; (with_reducible refine (pairMinus_calls bx by_ ax ay _).mono ?_); rw [HP.out, HQ.out]; rintro e w_ ⟨rfl, hb⟩; (first | replace HM := Aside0.mk (HM.out.keep hb) | replace HM := Aside0.mk (HM.out.drew.keep hb) | replace HM := Aside0.mk ((HM.out.alloc #[.int .i64 0, .int .i64 0] 65).keep hb) | replace HM := Aside0.mk ((HM.out.allocDrew #[.int .i64 0, .int .i64 0] 65).keep hb)); clear hb; (try clear ka0); (try clear ka1); (try clear kc0); (try clear kc1); (try clear kn0); (try clear kn1); (try clear knf0); (try clear knf1); (try clear kb0); (try clear kb1); (try clear ks0); (try clear ks1); have kb0 : w_.cell? ⟨g4, 0, none⟩ = some (.int .i64 bx) := (by first | exact blk_cell HM.out.a2 0 | exact blk_cell HM.out.a3 0); have kb1 : w_.cell? ⟨g4, 1, none⟩ = some (.int .i64 by_) := (by first | exact blk_cell HM.out.a2 1 | exact blk_cell HM.out.a3 1); have ks0 : w_.cell? ⟨g8, 0, none⟩ = some (.int .i64 ax) := (by first | exact blk_cell HM.out.a0 0 | exact blk_cell HM.out.a1 0); have ks1 : w_.cell? ⟨g8, 1, none⟩ = some (.int .i64 ay) := (by first | exact blk_cell HM.out.a0 1 | exact blk_cell HM.out.a1 1); have kn0 := blk_cell HM.out.a0 0; have kn1 := blk_cell HM.out.a0 1; have knf0 := blk_frozen HM.out.a0 0; have knf1 := blk_frozen HM.out.a0 1))
  all_goals
   go_wp2_with fail
   go_meet
   case rel => first | exact ⟨_, rfl, ⟨HM.out.put2 _ _⟩⟩ | exact ⟨_, rfl, ⟨HM.out.alloc _ _⟩⟩ | exact ⟨_, rfl, ⟨(HM.out.alloc _ _).put2 _ _⟩⟩
 case rest =>
  obtain ⟨B, rfl, HMc⟩ := hcut
  clear HM ka0 ka1 kb0 kb1 kc0 kc1 ks0 ks1
  have HM := HMc
  clear HMc
  have kl0 := blk_cell HM.out.a0 0
  have kl1 := blk_cell HM.out.a0 1
  have ks0 := blk_cell HM.out.a1 0
  have ks1 := blk_cell HM.out.a1 1
  have kc0 := blk_cell HM.out.a2 0
  have kc1 := blk_cell HM.out.a2 1
  go_wp2_with fail
  go_region_held3 (fun w' => w'.cell? ⟨B, 0, none⟩ = some (.int .i64 p) ∧ w'.cell? ⟨B, 1, none⟩ = some (.int .i64 q) ∧ w'.cell? ⟨g8, 0, none⟩ = some (.int .i64 ax) ∧ w'.cell? ⟨g8, 1, none⟩ = some (.int .i64 ay) ∧ w'.cell? ⟨g5, 0, none⟩ = some (.int .i64 cx) ∧ w'.cell? ⟨g5, 1, none⟩ = some (.int .i64 cy))
   (first
    | exact ⟨kl0, kl1, ks0, ks1, kc0, kc1⟩
    | exact ⟨blk_cell HM.out.drew.a0 0, blk_cell HM.out.drew.a0 1, blk_cell HM.out.drew.a1 0, blk_cell HM.out.drew.a1 1, blk_cell HM.out.drew.a2 0, blk_cell HM.out.drew.a2 1⟩
    | go_keep)
   (first
    | (go_at_call 40; (with_reducible refine (pairOf_calls cx cy _).mono ?_); rintro e w_ ⟨rfl, hb⟩; (first | replace HM := Aside0.mk (HM.out.keep hb) | replace HM := Aside0.mk (HM.out.drew.keep hb)); clear hb; (try clear kl0); (try clear kl1); (try clear ks0); (try clear ks1); (try clear kc0); (try clear kc1); have kl0 := blk_cell HM.out.a0 0; have kl1 := blk_cell HM.out.a0 1; have ks0 := blk_cell HM.out.a1 0; have ks1 := blk_cell HM.out.a1 1; have kc0 := blk_cell HM.out.a2 0; have kc1 := blk_cell HM.out.a2 1)
    | (go_at_call 69; (with_reducible refine (pairMinus_calls cx cy ax ay _).mono ?_); rw [HR.out, HS.out]; rintro e w_ ⟨rfl, hb⟩; (first | replace HM := Aside0.mk (HM.out.keep hb) | replace HM := Aside0.mk (HM.out.drew.keep hb)); clear hb; (try clear kl0); (try clear kl1); (try clear ks0); (try clear ks1); (try clear kc0); (try clear kc1); have kl0 := blk_cell HM.out.a0 0; have kl1 := blk_cell HM.out.a0 1; have ks0 := blk_cell HM.out.a1 0; have ks1 := blk_cell HM.out.a1 1; have kc0 := blk_cell HM.out.a2 0; have kc1 := blk_cell HM.out.a2 1)
    | (go_at_call 67; (with_reducible refine (pairCross_calls p q r s _).mono ?_); rintro e w_ ⟨rfl, hb⟩; (first | replace HM := Aside0.mk (HM.out.keep hb) | replace HM := Aside0.mk (HM.out.drew.keep hb)); clear hb; (try clear kl0); (try clear kl1); (try clear ks0); (try clear ks1); (try clear kc0); (try clear kc1); have kl0 := blk_cell HM.out.a0 0; have kl1 := blk_cell HM.out.a0 1; have ks0 := blk_cell HM.out.a1 0; have ks1 := blk_cell HM.out.a1 1; have kc0 := blk_cell HM.out.a2 0; have kc1 := blk_cell HM.out.a2 1)
    | (go_at_call 64; (with_reducible refine (impl_signInt.calls (wrap64 (wrap64 (p * s) - wrap64 (r * q))) _ _ (sgI_f _)).mono ?_); rintro e w_ ⟨rfl, hd⟩; have hb := hd.below; clear hd; (first | replace HM := Aside0.mk (HM.out.keep hb) | replace HM := Aside0.mk (HM.out.drew.keep hb)); clear hb; (try clear kl0); (try clear kl1); (try clear ks0); (try clear ks1); (try clear kc0); (try clear kc1); have kl0 := blk_cell HM.out.a0 0; have kl1 := blk_cell HM.out.a0 1; have ks0 := blk_cell HM.out.a1 0; have ks1 := blk_cell HM.out.a1 1; have kc0 := blk_cell HM.out.a2 0; have kc1 := blk_cell HM.out.a2 1))
  go_wp2_with fail
  go_ret2
  exact ⟨by rw [HP.out, HQ.out, HR.out, HS.out]; rfl, HM.out.1⟩
theorem side_no1 (ax ay bx by_ cx cy : Int) (h1 : inR ax ay 10000 = false) (w : World) :
  Calls Try.prog 54 #[.agg #[.int .i64 ax, .int .i64 ay], .agg #[.int .i64 bx, .int .i64 by_], .agg #[.int .i64 cx, .int .i64 cy]] w fun e w' => e = .returned (.tuple #[.int .i64 0, .bool false]) ∧ Below w.heap.size w w' := by
 have H1 := Aside0.mk h1
 have HM := Aside0.mk (Hd.nil w)
 clear h1
 go_enter Try.func54, Try.ntmps54
 go_wp2_with (first
  | ((with_reducible refine gate_dst (N := 3) rfl ?_); refine bx_ 3 (cs := #[.int .i64 ax, .int .i64 ay]) (t := 33) ?_; intro g3 e_ w_ b_ hb; replace HM := Aside0.mk (HM.out.box hb b_ e_); clear e_ b_ hb)
  | ((with_reducible refine gate_dst (N := 4) rfl ?_); refine bx_ 4 (cs := #[.int .i64 bx, .int .i64 by_]) (t := 33) ?_; intro g4 e_ w_ b_ hb; replace HM := Aside0.mk (HM.out.box hb b_ e_); clear e_ b_ hb)
  | ((with_reducible refine gate_dst (N := 5) rfl ?_); refine bx_ 5 (cs := #[.int .i64 cx, .int .i64 cy]) (t := 33) ?_; intro g5 e_ w_ b_ hb; replace HM := Aside0.mk (HM.out.box hb b_ e_); clear e_ b_ hb; have ka0 := blk_cell HM.out.a2 0; have ka1 := blk_cell HM.out.a2 1; have kb0 := blk_cell HM.out.a1 0; have kb1 := blk_cell HM.out.a1 1; have kc0 := blk_cell HM.out.a0 0; have kc1 := blk_cell HM.out.a0 1)
  | (go_at_call 68; (with_reducible refine (PointValid_calls ax ay _).mono ?_); rintro e w_ ⟨rfl, hb⟩; rw [H1.out]; replace HM := Aside0.mk (HM.out.keep hb); clear hb; (try clear ka0 ka1 kb0 kb1 kc0 kc1); have ka0 := blk_cell HM.out.a2 0; have ka1 := blk_cell HM.out.a2 1; have kb0 := blk_cell HM.out.a1 0; have kb1 := blk_cell HM.out.a1 1; have kc0 := blk_cell HM.out.a0 0; have kc1 := blk_cell HM.out.a0 1))
 go_ret2
 exact ⟨rfl, HM.out.1⟩
theorem side_no2 (ax ay bx by_ cx cy : Int) (h1 : inR ax ay 10000 = true) (h2 : inR bx by_ 10000 = false) (w : World) :
  Calls Try.prog 54 #[.agg #[.int .i64 ax, .int .i64 ay], .agg #[.int .i64 bx, .int .i64 by_], .agg #[.int .i64 cx, .int .i64 cy]] w fun e w' => e = .returned (.tuple #[.int .i64 0, .bool false]) ∧ Below w.heap.size w w' := by
 have H1 := Aside0.mk h1
 have H2 := Aside0.mk h2
 have HM := Aside0.mk (Hd.nil w)
 clear h1 h2
 go_enter Try.func54, Try.ntmps54
 go_wp2_with (first
  | ((with_reducible refine gate_dst (N := 3) rfl ?_); refine bx_ 3 (cs := #[.int .i64 ax, .int .i64 ay]) (t := 33) ?_; intro g3 e_ w_ b_ hb; replace HM := Aside0.mk (HM.out.box hb b_ e_); clear e_ b_ hb)
  | ((with_reducible refine gate_dst (N := 4) rfl ?_); refine bx_ 4 (cs := #[.int .i64 bx, .int .i64 by_]) (t := 33) ?_; intro g4 e_ w_ b_ hb; replace HM := Aside0.mk (HM.out.box hb b_ e_); clear e_ b_ hb)
  | ((with_reducible refine gate_dst (N := 5) rfl ?_); refine bx_ 5 (cs := #[.int .i64 cx, .int .i64 cy]) (t := 33) ?_; intro g5 e_ w_ b_ hb; replace HM := Aside0.mk (HM.out.box hb b_ e_); clear e_ b_ hb; have ka0 := blk_cell HM.out.a2 0; have ka1 := blk_cell HM.out.a2 1; have kb0 := blk_cell HM.out.a1 0; have kb1 := blk_cell HM.out.a1 1; have kc0 := blk_cell HM.out.a0 0; have kc1 := blk_cell HM.out.a0 1)
  | (go_at_call 68; (with_reducible refine (PointValid_calls ax ay _).mono ?_); rintro e w_ ⟨rfl, hb⟩; rw [H1.out]; replace HM := Aside0.mk (HM.out.keep hb); clear hb; (try clear ka0 ka1 kb0 kb1 kc0 kc1); have ka0 := blk_cell HM.out.a2 0; have ka1 := blk_cell HM.out.a2 1; have kb0 := blk_cell HM.out.a1 0; have kb1 := blk_cell HM.out.a1 1; have kc0 := blk_cell HM.out.a0 0; have kc1 := blk_cell HM.out.a0 1)
  | (go_at_call 68; (with_reducible refine (PointValid_calls bx by_ _).mono ?_); rintro e w_ ⟨rfl, hb⟩; rw [H2.out]; replace HM := Aside0.mk (HM.out.keep hb); clear hb; (try clear ka0 ka1 kb0 kb1 kc0 kc1); have ka0 := blk_cell HM.out.a2 0; have ka1 := blk_cell HM.out.a2 1; have kb0 := blk_cell HM.out.a1 0; have kb1 := blk_cell HM.out.a1 1; have kc0 := blk_cell HM.out.a0 0; have kc1 := blk_cell HM.out.a0 1))
 go_ret2
 exact ⟨rfl, HM.out.1⟩
theorem side_no3 (ax ay bx by_ cx cy : Int) (h1 : inR ax ay 10000 = true) (h2 : inR bx by_ 10000 = true) (h3 : inR cx cy 10000 = false) (w : World) :
  Calls Try.prog 54 #[.agg #[.int .i64 ax, .int .i64 ay], .agg #[.int .i64 bx, .int .i64 by_], .agg #[.int .i64 cx, .int .i64 cy]] w fun e w' => e = .returned (.tuple #[.int .i64 0, .bool false]) ∧ Below w.heap.size w w' := by
 have H1 := Aside0.mk h1
 have H2 := Aside0.mk h2
 have H3 := Aside0.mk h3
 have HM := Aside0.mk (Hd.nil w)
 clear h1 h2 h3
 go_enter Try.func54, Try.ntmps54
 go_wp2_with (first
  | ((with_reducible refine gate_dst (N := 3) rfl ?_); refine bx_ 3 (cs := #[.int .i64 ax, .int .i64 ay]) (t := 33) ?_; intro g3 e_ w_ b_ hb; replace HM := Aside0.mk (HM.out.box hb b_ e_); clear e_ b_ hb)
  | ((with_reducible refine gate_dst (N := 4) rfl ?_); refine bx_ 4 (cs := #[.int .i64 bx, .int .i64 by_]) (t := 33) ?_; intro g4 e_ w_ b_ hb; replace HM := Aside0.mk (HM.out.box hb b_ e_); clear e_ b_ hb)
  | ((with_reducible refine gate_dst (N := 5) rfl ?_); refine bx_ 5 (cs := #[.int .i64 cx, .int .i64 cy]) (t := 33) ?_; intro g5 e_ w_ b_ hb; replace HM := Aside0.mk (HM.out.box hb b_ e_); clear e_ b_ hb; have ka0 := blk_cell HM.out.a2 0; have ka1 := blk_cell HM.out.a2 1; have kb0 := blk_cell HM.out.a1 0; have kb1 := blk_cell HM.out.a1 1; have kc0 := blk_cell HM.out.a0 0; have kc1 := blk_cell HM.out.a0 1)
  | (go_at_call 68; (with_reducible refine (PointValid_calls ax ay _).mono ?_); rintro e w_ ⟨rfl, hb⟩; rw [H1.out]; replace HM := Aside0.mk (HM.out.keep hb); clear hb; (try clear ka0 ka1 kb0 kb1 kc0 kc1); have ka0 := blk_cell HM.out.a2 0; have ka1 := blk_cell HM.out.a2 1; have kb0 := blk_cell HM.out.a1 0; have kb1 := blk_cell HM.out.a1 1; have kc0 := blk_cell HM.out.a0 0; have kc1 := blk_cell HM.out.a0 1)
  | (go_at_call 68; (with_reducible refine (PointValid_calls bx by_ _).mono ?_); rintro e w_ ⟨rfl, hb⟩; rw [H2.out]; replace HM := Aside0.mk (HM.out.keep hb); clear hb; (try clear ka0 ka1 kb0 kb1 kc0 kc1); have ka0 := blk_cell HM.out.a2 0; have ka1 := blk_cell HM.out.a2 1; have kb0 := blk_cell HM.out.a1 0; have kb1 := blk_cell HM.out.a1 1; have kc0 := blk_cell HM.out.a0 0; have kc1 := blk_cell HM.out.a0 1)
  | (go_at_call 68; (with_reducible refine (PointValid_calls cx cy _).mono ?_); rintro e w_ ⟨rfl, hb⟩; rw [H3.out]; replace HM := Aside0.mk (HM.out.keep hb); clear hb; (try clear ka0 ka1 kb0 kb1 kc0 kc1); have ka0 := blk_cell HM.out.a2 0; have ka1 := blk_cell HM.out.a2 1; have kb0 := blk_cell HM.out.a1 0; have kb1 := blk_cell HM.out.a1 1; have kc0 := blk_cell HM.out.a0 0; have kc1 := blk_cell HM.out.a0 1))
 go_ret2
 exact ⟨rfl, HM.out.1⟩
def impl_PointSide.f (a0_0 : Int) (a0_1 : Int) (a1_0 : Int) (a1_1 : Int) (a2_0 : Int) (a2_1 : Int) : Option (Int × Bool) := some (sdP a0_0 a0_1 a1_0 a1_1 a2_0 a2_1)
theorem impl_PointSide.calls (a0_0 : Int) (a0_1 : Int) (a1_0 : Int) (a1_1 : Int) (a2_0 : Int) (a2_1 : Int) (r1 : Int) (r2 : Bool) (w : World) (h : impl_PointSide.f a0_0 a0_1 a1_0 a1_1 a2_0 a2_1 = some (r1, r2)) :
  Calls Try.prog 54 #[.agg #[.int .i64 a0_0, .int .i64 a0_1], .agg #[.int .i64 a1_0, .int .i64 a1_1], .agg #[.int .i64 a2_0, .int .i64 a2_1]] w fun e w' => e = .returned (.tuple #[.int .i64 r1, .bool r2]) ∧ Below w.heap.size w w' := by
 have h := Option.some.inj h
 unfold sdP at h
 cases h1 : inR a0_0 a0_1 10000 with
 | false =>
  rw [h1, if_neg (by simp)] at h
  obtain ⟨rfl, rfl⟩ := Prod.mk.inj h
  exact side_no1 _ _ _ _ _ _ h1 w
 | true =>
  cases h2 : inR a1_0 a1_1 10000 with
  | false =>
   rw [h1, h2, if_neg (by simp)] at h
   obtain ⟨rfl, rfl⟩ := Prod.mk.inj h
   exact side_no2 _ _ _ _ _ _ h1 h2 w
  | true =>
   cases h3 : inR a2_0 a2_1 10000 with
   | false =>
    rw [h1, h2, h3, if_neg (by simp)] at h
    obtain ⟨rfl, rfl⟩ := Prod.mk.inj h
    exact side_no3 _ _ _ _ _ _ h1 h2 h3 w
   | true =>
    rw [h1, h2, h3, if_pos (by simp)] at h
    obtain ⟨rfl, rfl⟩ := Prod.mk.inj h
    exact side_yes _ _ _ _ _ _ h1 h2 h3 w
def impl_between.f (a0 : Int) (a1 : Int) (a2 : Int) : Option (Bool) := if (mn a0 a1) ≤ a2 then (some (decide (a2 ≤ (mx a0 a1)))) else (some false)
set_option maxHeartbeats 8000000 in
set_option maxRecDepth 100000 in
theorem impl_between.calls (a0 : Int) (a1 : Int) (a2 : Int) (r : Bool) (w : World) (h : impl_between.f a0 a1 a2 = some r) :
  Calls Try.prog 56 #[.int .i64 a0, .int .i64 a1, .int .i64 a2] w fun e w' => e = .returned (.bool r) ∧ Below w.heap.size w w' := by
 have HB := Aside0.mk (Below.refl w.heap.size w)
 have H : (if (mn a0 a1) ≤ a2 then (some (decide (a2 ≤ (mx a0 a1)))) else (some false)) = some r := h
 clear h
 obtain ⟨ji4, hji4⟩ : ∃ j_ : Int, (mn a0 a1) = j_ := ⟨_, rfl⟩
 replace H : (if (ji4) ≤ a2 then (some (decide (a2 ≤ (mx a0 a1)))) else (some false)) = some r := by first | (rw [hji4] at H; exact H) | (simp only [hji4] at H ⊢; exact H)
 have hji4_ : (if a1 < a0 then a1 else a0) = ji4 := hji4
 by_cases c5 : (ji4) ≤ a2
 ·rw [if_pos c5] at H
  have c5b0 : decide ((ji4) ≤ a2) = true := decide_eq_true c5
  clear c5
  obtain ⟨ji6, hji6⟩ : ∃ j_ : Int, (mx a0 a1) = j_ := ⟨_, rfl⟩
  replace H : (some (decide (a2 ≤ (ji6)))) = some r := by first | (rw [hji6] at H; exact H) | (simp only [hji6] at H ⊢; exact H)
  have hji6_ : (if a0 < a1 then a1 else a0) = ji6 := hji6
  obtain rfl := Option.some.inj H
  go_enter Try.func56, Try.ntmps56
  go_wp2
  go_ret
  exact ⟨by first | rfl | (simp [errW_none, errW_some] <;> rfl) | (simp only [← hji4, ← hji6]; first | rfl | (simp [errW_none, errW_some] <;> rfl)) | (simp [*, errW_none, errW_some] <;> rfl), lb HB.out⟩
 ·rw [if_neg c5] at H
  have c5b0 : decide ((ji4) ≤ a2) = false := decide_eq_false c5
  clear c5
  obtain rfl := Option.some.inj H
  go_enter Try.func56, Try.ntmps56
  go_wp2
  go_ret
  exact ⟨by first | rfl | (simp [errW_none, errW_some] <;> rfl) | (simp only [← hji4]; first | rfl | (simp [errW_none, errW_some] <;> rfl)) | (simp [*, errW_none, errW_some] <;> rfl), lb HB.out⟩
def impl_PointOn.j0 : Nat → Bool → Int → Int → Int → Int → Int → Int → Option (Bool)
 | 0, _, _, _, _, _, _, _ => none
 | k + 1, x21, x227000, x227001, x228000, x228001, x229000, x229001 => if x21 = true then (some false) else ((impl_between.f x227000 x228000 x229000).bind fun t231 => (if t231 = true then ((impl_between.f x227001 x228001 x229001).bind fun t232 => (some t232)) else (some false)))
def impl_PointOn.f (k : Nat) (a0_0 : Int) (a0_1 : Int) (a1_0 : Int) (a1_1 : Int) (a2_0 : Int) (a2_1 : Int) : Option (Bool) := (impl_PointSide.f a0_0 a0_1 a1_0 a1_1 a2_0 a2_1).bind fun bt229 => (if bt229.2 = true then (impl_PointOn.j0 k (bt229.1 != 0) a0_0 a0_1 a1_0 a1_1 a2_0 a2_1) else (impl_PointOn.j0 k true a0_0 a0_1 a1_0 a1_1 a2_0 a2_1))
theorem impl_PointOn.mono_l : ∀ k, (∀ y0 y1 y2 y3 y4 y5 y6, LeO (impl_PointOn.j0 k y0 y1 y2 y3 y4 y5 y6) (impl_PointOn.j0 (k + 1) y0 y1 y2 y3 y4 y5 y6))
 | 0 => fun _ _ _ _ _ _ _ r h => by simp [impl_PointOn.j0] at h
 | k + 1 => by
  have ih0 := impl_PointOn.mono_l k
  ·intro y0 y1 y2 y3 y4 y5 y6
   unfold impl_PointOn.j0
   repeat' first
   | (with_reducible exact ih0 _ _ _ _ _ _ _)
   | (with_reducible exact LeO.refl _)
   | (with_reducible exact LeO.none _)
   | (with_reducible refine LeO.ite ?_ ?_)
   | (with_reducible refine LeO.bind ?_ (fun _ => ?_))
   | exact ih0 _ _ _ _ _ _ _
   | exact LeO.none _
   | refine LeO.ite ?_ ?_
   | refine LeO.bind ?_ (fun _ => ?_)
theorem impl_PointOn.mono : ∀ a0 a1 a2 a3 a4 a5 k, LeO (impl_PointOn.f k a0 a1 a2 a3 a4 a5) (impl_PointOn.f (k + 1) a0 a1 a2 a3 a4 a5) := by
 intro a0 a1 a2 a3 a4 a5 k
 have ih0 := impl_PointOn.mono_l k
 unfold impl_PointOn.f
 repeat' first
   | (with_reducible exact ih0 _ _ _ _ _ _ _)
   | (with_reducible exact LeO.refl _)
   | (with_reducible exact LeO.none _)
   | (with_reducible refine LeO.ite ?_ ?_)
   | (with_reducible refine LeO.bind ?_ (fun _ => ?_))
   | exact ih0 _ _ _ _ _ _ _
   | exact LeO.none _
   | refine LeO.ite ?_ ?_
   | refine LeO.bind ?_ (fun _ => ?_)
set_option maxHeartbeats 8000000 in
set_option maxRecDepth 100000 in
theorem impl_PointOn.calls (k : Nat) (a0_0 : Int) (a0_1 : Int) (a1_0 : Int) (a1_1 : Int) (a2_0 : Int) (a2_1 : Int) (r : Bool) (w : World) (h : impl_PointOn.f k a0_0 a0_1 a1_0 a1_1 a2_0 a2_1 = some r) :
  Calls Try.prog 25 #[.agg #[.int .i64 a0_0, .int .i64 a0_1], .agg #[.int .i64 a1_0, .int .i64 a1_1], .agg #[.int .i64 a2_0, .int .i64 a2_1]] w fun e w' => e = .returned (.bool r) ∧ Below w.heap.size w w' := by
 have hu33 := Try.underlying33
 have HB := Aside0.mk (Below.refl w.heap.size w)
 have H : ((impl_PointSide.f a0_0 a0_1 a1_0 a1_1 a2_0 a2_1).bind fun bt229 => (if bt229.2 = true then (impl_PointOn.j0 k (bt229.1 != 0) a0_0 a0_1 a1_0 a1_1 a2_0 a2_1) else (impl_PointOn.j0 k true a0_0 a0_1 a1_0 a1_1 a2_0 a2_1))) = some r := h
 clear h
 replace H := Option.bind_eq_some_iff.mp H
 obtain ⟨⟨t229, t230⟩, A40, H⟩ := H
 replace H : (if t230 = true then (impl_PointOn.j0 k (t229 != 0) a0_0 a0_1 a1_0 a1_1 a2_0 a2_1) else (impl_PointOn.j0 k true a0_0 a0_1 a1_0 a1_1 a2_0 a2_1)) = some r := H
 have A4 := Aside0.mk A40
 clear A40
 have HC5 := Aside0.mk H
 clear H
 go_enter Try.func25, Try.ntmps25
 go_upto_region 2 with (first | ((with_reducible refine gate_dst (N := 3) rfl ?_); refine bx_ 3 (cs := #[.int .i64 a0_0, .int .i64 a0_1]) (t := 33) ?_; intro gb226 hg w6 hbox hb; have n0_ := Aside0.mk (below_step (lb HB.out) hb); have n1_ := Aside0.mk (hbox); have n2_ := Aside0.mk ((by rw [hg]; exact (below_size (lb HB.out)) : w.heap.size ≤ gb226)); have n3_ := Aside0.mk ((by rw [hg]; exact (below_size (lb HB.out)) : w.heap.size ≤ gb226)); clear HB; have HB := n0_; have BK226 := n1_; have GW226 := n2_; have GE226 := n3_; clear n0_ n1_ n2_ n3_; clear hb hbox hg) | ((with_reducible refine gate_dst (N := 4) rfl ?_); refine bx_ 4 (cs := #[.int .i64 a1_0, .int .i64 a1_1]) (t := 33) ?_; intro gb227 hg w7 hbox hb; have n0_ := Aside0.mk (blk_below (bf BK226.out) hb); have n1_ := Aside0.mk (below_step (lb HB.out) hb); have n2_ := Aside0.mk (hbox); have n3_ := Aside0.mk ((by rw [hg]; exact (below_size (lb HB.out)) : w.heap.size ≤ gb227)); have n4_ := Aside0.mk ((by rw [hg]; exact (below_size (lb HB.out)) : w.heap.size ≤ gb227)); have n5_ := Aside0.mk ((by rw [hg]; exact Nat.ne_of_lt (blk_lt (bf BK226.out)) : gb226 ≠ gb227)); have n6_ := Aside0.mk ((by rw [hg]; exact Nat.ne_of_gt (blk_lt (bf BK226.out)) : gb227 ≠ gb226)); clear BK226; clear HB; have BK226 := n0_; have HB := n1_; have BK227 := n2_; have GW227 := n3_; have GE227 := n4_; have NB226_227 := n5_; have NB227_226 := n6_; clear n0_ n1_ n2_ n3_ n4_ n5_ n6_; clear hb hbox hg) | ((with_reducible refine gate_dst (N := 5) rfl ?_); refine bx_ 5 (cs := #[.int .i64 a2_0, .int .i64 a2_1]) (t := 33) ?_; intro gb228 hg w8 hbox hb; have n0_ := Aside0.mk (blk_below (bf BK226.out) hb); have n1_ := Aside0.mk (blk_below (bf BK227.out) hb); have n2_ := Aside0.mk (below_step (lb HB.out) hb); have n3_ := Aside0.mk (hbox); have n4_ := Aside0.mk ((by rw [hg]; exact (below_size (lb HB.out)) : w.heap.size ≤ gb228)); have n5_ := Aside0.mk ((by rw [hg]; exact (below_size (lb HB.out)) : w.heap.size ≤ gb228)); have n6_ := Aside0.mk ((by rw [hg]; exact Nat.ne_of_lt (blk_lt (bf BK226.out)) : gb226 ≠ gb228)); have n7_ := Aside0.mk ((by rw [hg]; exact Nat.ne_of_gt (blk_lt (bf BK226.out)) : gb228 ≠ gb226)); have n8_ := Aside0.mk ((by rw [hg]; exact Nat.ne_of_lt (blk_lt (bf BK227.out)) : gb227 ≠ gb228)); have n9_ := Aside0.mk ((by rw [hg]; exact Nat.ne_of_gt (blk_lt (bf BK227.out)) : gb228 ≠ gb227)); clear BK226; clear BK227; clear HB; have BK226 := n0_; have BK227 := n1_; have HB := n2_; have BK228 := n3_; have GW228 := n4_; have GE228 := n5_; have NB226_228 := n6_; have NB228_226 := n7_; have NB227_228 := n8_; have NB228_227 := n9_; clear n0_ n1_ n2_ n3_ n4_ n5_ n6_ n7_ n8_ n9_; clear hb hbox hg; have hnb9 := NB226_227.out; have hnc9 := NB227_226.out; have hnb10 := NB226_228.out; have hnc10 := NB228_226.out; have hcz11_0 : w8.cell? ⟨gb226, 0, none⟩ = some (.int .i64 a0_0) := (blk_cell BK226.out 0).trans rfl; have hcz11_1 : w8.cell? ⟨gb226, 1, none⟩ = some (.int .i64 a0_1) := (blk_cell BK226.out 1).trans rfl; have hfz11_0 := blk_frozen BK226.out 0; have hfz11_1 := blk_frozen BK226.out 1; have hnb12 := NB227_228.out; have hnc12 := NB228_227.out; have hcz13_0 : w8.cell? ⟨gb227, 0, none⟩ = some (.int .i64 a1_0) := (blk_cell BK227.out 0).trans rfl; have hcz13_1 : w8.cell? ⟨gb227, 1, none⟩ = some (.int .i64 a1_1) := (blk_cell BK227.out 1).trans rfl; have hfz13_0 := blk_frozen BK227.out 0; have hfz13_1 := blk_frozen BK227.out 1; have hcz14_0 : w8.cell? ⟨gb228, 0, none⟩ = some (.int .i64 a2_0) := (blk_cell BK228.out 0).trans rfl; have hcz14_1 : w8.cell? ⟨gb228, 1, none⟩ = some (.int .i64 a2_1) := (blk_cell BK228.out 1).trans rfl; have hfz14_0 := blk_frozen BK228.out 0; have hfz14_1 := blk_frozen BK228.out 1) | ((with_reducible refine gate_callee (f := 54) rfl ?_); refine goesL_ (some 13) rfl rfl Try.func54 (by kernel_rfl) rfl #[.agg #[.int .i64 a0_0, .int .i64 a0_1], .agg #[.int .i64 a1_0, .int .i64 a1_1], .agg #[.int .i64 a2_0, .int .i64 a2_1]] rfl al ?_; (with_reducible refine (impl_PointSide.calls a0_0 a0_1 a1_0 a1_1 a2_0 a2_1 t229 t230 _ A4.out).mono ?_); rintro e w15 ⟨rfl, hb⟩; refine ⟨_, rfl, ?_⟩; have n0_ := Aside0.mk (blk_below (bf BK226.out) hb); have n1_ := Aside0.mk (blk_below (bf BK227.out) hb); have n2_ := Aside0.mk (blk_below (bf BK228.out) hb); have n3_ := Aside0.mk (below_step (lb HB.out) hb); clear BK226; clear BK227; clear BK228; clear HB; have BK226 := n0_; have BK227 := n1_; have BK228 := n2_; have HB := n3_; clear n0_ n1_ n2_ n3_; (try clear hb); (try clear hb2); (try clear hk); (try clear hi)))
 (try simp only [Act.put, List.setIfInBounds_toArray, List.set_cons_zero, List.set_cons_succ])
 go_cut [21] (fun v21 wc => ∃ (kq : Nat) (x21_4 : Bool), v21 = .bool x21_4 ∧ Aside0 (impl_PointOn.j0 kq x21_4 a0_0 a0_1 a1_0 a1_1 a2_0 a2_1 = some r) ∧ Aside0 (kq ≤ k) ∧ Aside0 (wc.heap[gb226]? = some (.cells #[.int .i64 a0_0, .int .i64 a0_1] 33 (0, 0))) ∧ Aside0 (wc.heap[gb227]? = some (.cells #[.int .i64 a1_0, .int .i64 a1_1] 33 (0, 0))) ∧ Aside0 (wc.heap[gb228]? = some (.cells #[.int .i64 a2_0, .int .i64 a2_1] 33 (0, 0))) ∧ Aside0 (Below w.heap.size w wc))
 case first =>
  have H := HC5.out
  clear HC5
  by_cases c16 : t230 = true
  ·subst c16
   have H1 : (impl_PointOn.j0 k (t229 != 0) a0_0 a0_1 a1_0 a1_1 a2_0 a2_1) = some r := by rw [if_pos rfl] at H; exact H
   clear H
   have H := H1
   clear H1
   have H' := Aside0.mk H
   clear H
   go_wp2
   go_meet
   case rel => exact ⟨_, ((t229 != 0)), (by first | rfl | (simp; done) | (simp [*]; done)), H', ⟨by first | omega | exact Nat.le_refl _⟩, ⟨bu BK226.out⟩, ⟨bu BK227.out⟩, ⟨bu BK228.out⟩, ⟨lb HB.out⟩⟩
  ·replace c16 := Bool.eq_false_iff.mpr c16
   subst c16
   have H1 : (impl_PointOn.j0 k true a0_0 a0_1 a1_0 a1_1 a2_0 a2_1) = some r := by rw [if_neg (show ¬ (false = true) by decide)] at H; exact H
   clear H
   have H := H1
   clear H1
   have H' := Aside0.mk H
   clear H
   go_wp2
   go_meet
   case rel => exact ⟨_, (true), (by first | rfl | (simp; done) | (simp [*]; done)), H', ⟨by first | omega | exact Nat.le_refl _⟩, ⟨bu BK226.out⟩, ⟨bu BK227.out⟩, ⟨bu BK228.out⟩, ⟨lb HB.out⟩⟩
 case rest =>
  clear HC5
  try clear c1
  try clear c2
  try clear p2
  try clear c5
  try clear c9
  try clear c10
  try clear c12
  try clear c16
  try clear hcz11_0
  try clear hcz11_1
  try clear hcz13_0
  try clear hcz13_1
  try clear hcz14_0
  try clear hcz14_1
  try clear hfz11_0
  try clear hfz11_1
  try clear hfz13_0
  try clear hfz13_1
  try clear hfz14_0
  try clear hfz14_1
  obtain ⟨kq, x21_4, rfl, HA, HJ4, BK226, BK227, BK228, HB⟩ := hcut
  cases kq with
  | zero => exact absurd HA.out (by simp [impl_PointOn.j0])
  | succ kj4 =>
   have H := HA.out
   clear HA
   simp only [impl_PointOn.j0] at H
   by_cases c17 : x21_4 = true
   ·subst c17
    have H1 : (some false) = some r := by rw [if_pos rfl] at H; exact H
    clear H
    have H := H1
    clear H1
    obtain rfl := Option.some.inj H
    go_wp2
    go_ret
    exact ⟨er, lb HB.out⟩
   ·replace c17 := Bool.eq_false_iff.mpr c17
    subst c17
    have H1 : ((impl_between.f a0_0 a1_0 a2_0).bind fun t231 => (if t231 = true then ((impl_between.f a0_1 a1_1 a2_1).bind fun t232 => (some t232)) else (some false))) = some r := by rw [if_neg (show ¬ (false = true) by decide)] at H; exact H
    clear H
    have H := H1
    clear H1
    replace H := Option.bind_eq_some_iff.mp H
    obtain ⟨t231, A180, H⟩ := H
    replace H : (if t231 = true then ((impl_between.f a0_1 a1_1 a2_1).bind fun t232 => (some t232)) else (some false)) = some r := H
    have A18 := Aside0.mk A180
    clear A180
    by_cases c19 : t231 = true
    ·subst c19
     have H1 : ((impl_between.f a0_1 a1_1 a2_1).bind fun t232 => (some t232)) = some r := by rw [if_pos rfl] at H; exact H
     clear H
     have H := H1
     clear H1
     replace H := Option.bind_eq_some_iff.mp H
     obtain ⟨t232, A200, H⟩ := H
     replace H : (some t232) = some r := H
     have A20 := Aside0.mk A200
     clear A200
     obtain rfl := Option.some.inj H
     have hnb21 := NB226_227.out
     have hnc21 := NB227_226.out
     have hnb22 := NB226_228.out
     have hnc22 := NB228_226.out
     have hcz23_0 : wc.cell? ⟨gb226, 0, none⟩ = some (.int .i64 a0_0) := (blk_cell BK226.out 0).trans rfl
     have hcz23_1 : wc.cell? ⟨gb226, 1, none⟩ = some (.int .i64 a0_1) := (blk_cell BK226.out 1).trans rfl
     have hfz23_0 := blk_frozen BK226.out 0
     have hfz23_1 := blk_frozen BK226.out 1
     have hnb24 := NB227_228.out
     have hnc24 := NB228_227.out
     have hcz25_0 : wc.cell? ⟨gb227, 0, none⟩ = some (.int .i64 a1_0) := (blk_cell BK227.out 0).trans rfl
     have hcz25_1 : wc.cell? ⟨gb227, 1, none⟩ = some (.int .i64 a1_1) := (blk_cell BK227.out 1).trans rfl
     have hfz25_0 := blk_frozen BK227.out 0
     have hfz25_1 := blk_frozen BK227.out 1
     have hcz26_0 : wc.cell? ⟨gb228, 0, none⟩ = some (.int .i64 a2_0) := (blk_cell BK228.out 0).trans rfl
     have hcz26_1 : wc.cell? ⟨gb228, 1, none⟩ = some (.int .i64 a2_1) := (blk_cell BK228.out 1).trans rfl
     have hfz26_0 := blk_frozen BK228.out 0
     have hfz26_1 := blk_frozen BK228.out 1
     go_wp2_with (first | ((with_reducible refine gate_callee (f := 56) rfl ?_); refine goesL_ (some 28) rfl rfl Try.func56 (by kernel_rfl) rfl #[.int .i64 a0_0, .int .i64 a1_0, .int .i64 a2_0] rfl al ?_; (with_reducible refine (impl_between.calls a0_0 a1_0 a2_0 true _ A18.out).mono ?_); rintro e w27 ⟨rfl, hb⟩; refine ⟨_, rfl, ?_⟩; have n0_ := Aside0.mk (blk_below (bf BK226.out) hb); have n1_ := Aside0.mk (blk_below (bf BK227.out) hb); have n2_ := Aside0.mk (blk_below (bf BK228.out) hb); have n3_ := Aside0.mk (below_step (lb HB.out) hb); clear BK226; clear BK227; clear BK228; clear HB; have BK226 := n0_; have BK227 := n1_; have BK228 := n2_; have HB := n3_; clear n0_ n1_ n2_ n3_; (try clear hb); (try clear hb2); (try clear hk); (try clear hi); have hcz28_0 : w27.cell? ⟨gb226, 0, none⟩ = some (.int .i64 a0_0) := (blk_cell BK226.out 0).trans rfl; have hcz28_1 : w27.cell? ⟨gb226, 1, none⟩ = some (.int .i64 a0_1) := (blk_cell BK226.out 1).trans rfl; have hfz28_0 := blk_frozen BK226.out 0; have hfz28_1 := blk_frozen BK226.out 1; have hcz29_0 : w27.cell? ⟨gb227, 0, none⟩ = some (.int .i64 a1_0) := (blk_cell BK227.out 0).trans rfl; have hcz29_1 : w27.cell? ⟨gb227, 1, none⟩ = some (.int .i64 a1_1) := (blk_cell BK227.out 1).trans rfl; have hfz29_0 := blk_frozen BK227.out 0; have hfz29_1 := blk_frozen BK227.out 1; have hcz30_0 : w27.cell? ⟨gb228, 0, none⟩ = some (.int .i64 a2_0) := (blk_cell BK228.out 0).trans rfl; have hcz30_1 : w27.cell? ⟨gb228, 1, none⟩ = some (.int .i64 a2_1) := (blk_cell BK228.out 1).trans rfl; have hfz30_0 := blk_frozen BK228.out 0; have hfz30_1 := blk_frozen BK228.out 1) | (go_at_call 56; (with_reducible refine (impl_between.calls a0_1 a1_1 a2_1 t232 _ A20.out).mono ?_); rintro e w31 ⟨rfl, hb⟩; have n0_ := Aside0.mk (blk_below (bf BK226.out) hb); have n1_ := Aside0.mk (blk_below (bf BK227.out) hb); have n2_ := Aside0.mk (blk_below (bf BK228.out) hb); have n3_ := Aside0.mk (below_step (lb HB.out) hb); clear BK226; clear BK227; clear BK228; clear HB; have BK226 := n0_; have BK227 := n1_; have BK228 := n2_; have HB := n3_; clear n0_ n1_ n2_ n3_; (try clear hb); (try clear hb2); (try clear hk); (try clear hi)))
     go_ret
     exact ⟨er, lb HB.out⟩
    ·replace c19 := Bool.eq_false_iff.mpr c19
     subst c19
     have H1 : (some false) = some r := by rw [if_neg (show ¬ (false = true) by decide)] at H; exact H
     clear H
     have H := H1
     clear H1
     obtain rfl := Option.some.inj H
     have hnb32 := NB226_227.out
     have hnc32 := NB227_226.out
     have hnb33 := NB226_228.out
     have hnc33 := NB228_226.out
     have hcz34_0 : wc.cell? ⟨gb226, 0, none⟩ = some (.int .i64 a0_0) := (blk_cell BK226.out 0).trans rfl
     have hcz34_1 : wc.cell? ⟨gb226, 1, none⟩ = some (.int .i64 a0_1) := (blk_cell BK226.out 1).trans rfl
     have hfz34_0 := blk_frozen BK226.out 0
     have hfz34_1 := blk_frozen BK226.out 1
     have hnb35 := NB227_228.out
     have hnc35 := NB228_227.out
     have hcz36_0 : wc.cell? ⟨gb227, 0, none⟩ = some (.int .i64 a1_0) := (blk_cell BK227.out 0).trans rfl
     have hcz36_1 : wc.cell? ⟨gb227, 1, none⟩ = some (.int .i64 a1_1) := (blk_cell BK227.out 1).trans rfl
     have hfz36_0 := blk_frozen BK227.out 0
     have hfz36_1 := blk_frozen BK227.out 1
     have hcz37_0 : wc.cell? ⟨gb228, 0, none⟩ = some (.int .i64 a2_0) := (blk_cell BK228.out 0).trans rfl
     have hcz37_1 : wc.cell? ⟨gb228, 1, none⟩ = some (.int .i64 a2_1) := (blk_cell BK228.out 1).trans rfl
     have hfz37_0 := blk_frozen BK228.out 0
     have hfz37_1 := blk_frozen BK228.out 1
     go_wp2_with (first | ((with_reducible refine gate_callee (f := 56) rfl ?_); refine goesL_ (some 28) rfl rfl Try.func56 (by kernel_rfl) rfl #[.int .i64 a0_0, .int .i64 a1_0, .int .i64 a2_0] rfl al ?_; (with_reducible refine (impl_between.calls a0_0 a1_0 a2_0 false _ A18.out).mono ?_); rintro e w38 ⟨rfl, hb⟩; refine ⟨_, rfl, ?_⟩; have n0_ := Aside0.mk (blk_below (bf BK226.out) hb); have n1_ := Aside0.mk (blk_below (bf BK227.out) hb); have n2_ := Aside0.mk (blk_below (bf BK228.out) hb); have n3_ := Aside0.mk (below_step (lb HB.out) hb); clear BK226; clear BK227; clear BK228; clear HB; have BK226 := n0_; have BK227 := n1_; have BK228 := n2_; have HB := n3_; clear n0_ n1_ n2_ n3_; (try clear hb); (try clear hb2); (try clear hk); (try clear hi)))
     go_ret
     exact ⟨er, lb HB.out⟩
def onB (ax ay bx by_ cx cy : Int) : Bool := (sdP ax ay bx by_ cx cy).2 && ((sdP ax ay bx by_ cx cy).1 == 0 && (decide (mn ax bx ≤ cx ∧ cx ≤ mx ax bx) && decide (mn ay by_ ≤ cy ∧ cy ≤ mx ay by_)))
theorem onB_f (ax ay bx by_ cx cy : Int) : impl_PointOn.f 1 ax ay bx by_ cx cy = some (onB ax ay bx by_ cx cy) := by
 unfold impl_PointOn.f impl_PointSide.f onB
 simp only [Option.bind_some, impl_PointOn.j0, impl_between.f]
 generalize sdP ax ay bx by_ cx cy = p
 obtain ⟨s, b⟩ := p
 cases b with
 | false => simp
 | true =>
  by_cases hs : s = 0
  ·subst hs
   by_cases h1 : mn ax bx ≤ cx <;> by_cases h2 : cx ≤ mx ax bx <;> by_cases h3 : mn ay by_ ≤ cy <;> by_cases h4 : cy ≤ mx ay by_ <;> simp [h1, h2, h3, h4]
  ·simp [hs]
theorem three_new (w : World) (X Y Z : Obj) : (((w.alloc X).alloc Y).alloc Z).drew.heap[w.heap.size]? = some X ∧ (((w.alloc X).alloc Y).alloc Z).drew.heap[w.heap.size + 1]? = some Y ∧ (((w.alloc X).alloc Y).alloc Z).drew.heap[w.heap.size + 1 + 1]? = some Z := by
 have h2 := heap_alloc_new (w.alloc X) Y
 rw [World.size_alloc] at h2
 exact ⟨blk_drew (blk_alloc (blk_alloc (heap_alloc_new w X) Y) Z), blk_drew (blk_alloc h2 Z), blk_drew (three_last w X Y Z)⟩
theorem three_keep {w W : World} {b0 b1 b2 : Nat} {x0 y0 x1 y1 x2 y2 : Int} {p1 p2 v : Value} {t : TypeId} (h0 : w.heap[b0]? = some (.cells #[.int .i64 x0, .int .i64 y0, p1] t (0, 0))) (h1 : w.heap[b1]? = some (.cells #[.int .i64 x1, .int .i64 y1, p2] t (0, 0))) (h2 : w.heap[b2]? = some (.cells #[.int .i64 x2, .int .i64 y2, v] t (0, 0))) (hb : Below w.heap.size w W) :
  W.cell? ⟨b0, 0, none⟩ = some (.int .i64 x0) ∧ W.cell? ⟨b0, 1, none⟩ = some (.int .i64 y0) ∧ W.cell? ⟨b0, 2, none⟩ = some p1 ∧ W.cell? ⟨b1, 0, none⟩ = some (.int .i64 x1) ∧ W.cell? ⟨b1, 1, none⟩ = some (.int .i64 y1) ∧ W.cell? ⟨b1, 2, none⟩ = some p2 ∧ W.cell? ⟨b2, 0, none⟩ = some (.int .i64 x2) ∧ W.cell? ⟨b2, 1, none⟩ = some (.int .i64 y2) := by
 have k0 := (hb.block _ (blk_lt h0)).trans h0
 have k1 := (hb.block _ (blk_lt h1)).trans h1
 have k2 := (hb.block _ (blk_lt h2)).trans h2
 exact ⟨(blk_cell k0 0).trans rfl, (blk_cell k0 1).trans rfl, (blk_cell k0 2).trans rfl, (blk_cell k1 0).trans rfl, (blk_cell k1 1).trans rfl, (blk_cell k1 2).trans rfl, (blk_cell k2 0).trans rfl, (blk_cell k2 1).trans rfl⟩
set_option maxHeartbeats 8000000 in
set_option maxRecDepth 100000 in
theorem foldsBack_calls (b0 b1 b2 : Nat) (x0 y0 x1 y1 x2 y2 : Int) (v : Value) (w : World) (h0 : w.heap[b0]? = some (.cells #[.int .i64 x0, .int .i64 y0, .pointer (some ⟨b1, 0, none⟩)] 75 (0, 0))) (h1 : w.heap[b1]? = some (.cells #[.int .i64 x1, .int .i64 y1, .pointer (some ⟨b2, 0, none⟩)] 75 (0, 0))) (h2 : w.heap[b2]? = some (.cells #[.int .i64 x2, .int .i64 y2, v] 75 (0, 0))) :
  Calls Try.prog 90 #[.pointer (some ⟨b0, 0, none⟩)] w fun e w' => e = .returned (.bool (onB x0 y0 x1 y1 x2 y2 || onB x1 y1 x2 y2 x0 y0)) ∧ Below w.heap.size w w' := by
 have HC := Aside0.mk (onB_f x0 y0 x1 y1 x2 y2)
 have HD := Aside0.mk (onB_f x1 y1 x2 y2 x0 y0)
 have HW := Aside0.mk (Below.refl w.heap.size w)
 have l0 := blk_lt h0
 have l1 := blk_lt h1
 have l2 := blk_lt h2
 have c00 : w.cell? ⟨b0, 0, none⟩ = some (.int .i64 x0) := blk_cell h0 0
 have c01 : w.cell? ⟨b0, 1, none⟩ = some (.int .i64 y0) := blk_cell h0 1
 have c02 : w.cell? ⟨b0, 2, none⟩ = some (.pointer (some ⟨b1, 0, none⟩)) := blk_cell h0 2
 have c10 : w.cell? ⟨b1, 0, none⟩ = some (.int .i64 x1) := blk_cell h1 0
 have c11 : w.cell? ⟨b1, 1, none⟩ = some (.int .i64 y1) := blk_cell h1 1
 have c12 : w.cell? ⟨b1, 2, none⟩ = some (.pointer (some ⟨b2, 0, none⟩)) := blk_cell h1 2
 have c20 : w.cell? ⟨b2, 0, none⟩ = some (.int .i64 x2) := blk_cell h2 0
 have c21 : w.cell? ⟨b2, 1, none⟩ = some (.int .i64 y2) := blk_cell h2 1
 have H0 := Aside0.mk h0
 have H1 := Aside0.mk h1
 have H2 := Aside0.mk h2
 have A0 : Aside0 (w.heap.size ≤ w.heap.size) := ⟨Nat.le_refl _⟩
 have A1 : Aside0 (w.heap.size ≤ w.heap.size + 1) := ⟨by omega⟩
 have A2 : Aside0 (w.heap.size ≤ w.heap.size + 1 + 1) := ⟨by omega⟩
 have A3 : Aside0 (w.heap.size ≤ w.heap.size + 2) := ⟨by omega⟩
 clear h0 h1 h2
 generalize hO1 : onB x0 y0 x1 y1 x2 y2 = o1 at *
 generalize hO2 : onB x1 y1 x2 y2 x0 y0 = o2 at *
 clear hO1 hO2
 go_enter Try.func90, Try.ntmps90
 go_upto_region 1 with fail
 rename_i K hK_
 have key : ∀ (t1 t6 t7 t8 t9 t10 t11 t12 t13 t14 t15 t16 t17 t18 t19 t20 t21 t22 t23 t24 t25 t26 : Value) (g3 g4 g5 : Nat) (W : World), Below w.heap.size w W → W.heap[g3]? = some (.cells #[.int .i64 x0, .int .i64 y0] 33 (0, 0)) → W.heap[g4]? = some (.cells #[.int .i64 x1, .int .i64 y1] 33 (0, 0)) → W.heap[g5]? = some (.cells #[.int .i64 x2, .int .i64 y2] 33 (0, 0)) →
   K { tmps := #[.pointer (some ⟨b0, 0, none⟩), t1, .bool false, .pointer (some ⟨g3, 0, none⟩), .pointer (some ⟨g4, 0, none⟩), .pointer (some ⟨g5, 0, none⟩), t6, t7, t8, t9, t10, t11, t12, t13, t14, t15, t16, t17, t18, t19, t20, t21, t22, t23, t24, t25, t26, undef, undef, undef, undef, undef, undef, undef, undef, undef, undef], defers := [] } W := by
  intro t1 t6 t7 t8 t9 t10 t11 t12 t13 t14 t15 t16 t17 t18 t19 t20 t21 t22 t23 t24 t25 t26 g3 g4 g5 W hB k3 k4 k5
  have HB := Aside0.mk hB
  have K3 := Aside0.mk k3
  have K4 := Aside0.mk k4
  have K5 := Aside0.mk k5
  have d0 := blk_cell k3 0
  have d1 := blk_cell k3 1
  have e0 := blk_cell k4 0
  have e1 := blk_cell k4 1
  have f0 := blk_cell k5 0
  have f1 := blk_cell k5 1
  clear hB k3 k4 k5 c00 c01 c02 c10 c11 c12 c20 c21
  refine hK_ _ _ ?_
  clear hK_
  cases o1 with
  | true =>
   go_wp2_with (go_at_call 25; (with_reducible refine (impl_PointOn.calls 1 x0 y0 x1 y1 x2 y2 true _ HC.out).mono ?_); rintro e w_ ⟨rfl, hb⟩; replace HB := Aside0.mk (HB.out.trans (hb.mono HB.out.size)); clear hb d0 d1 e0 e1 f0 f1)
   go_ret
   exact ⟨rfl, HB.out⟩
  | false =>
   go_wp2_with (first
    | (go_at_call 25; (with_reducible refine (impl_PointOn.calls 1 x0 y0 x1 y1 x2 y2 false _ HC.out).mono ?_); rintro e w_ ⟨rfl, hb⟩; replace HB := Aside0.mk (HB.out.trans (hb.mono HB.out.size)); replace K3 := Aside0.mk (blk_below K3.out hb); replace K4 := Aside0.mk (blk_below K4.out hb); replace K5 := Aside0.mk (blk_below K5.out hb); clear hb d0 d1 e0 e1 f0 f1; have d0 := blk_cell K3.out 0; have d1 := blk_cell K3.out 1; have e0 := blk_cell K4.out 0; have e1 := blk_cell K4.out 1; have f0 := blk_cell K5.out 0; have f1 := blk_cell K5.out 1)
    | (go_at_call 25; (with_reducible refine (impl_PointOn.calls 1 x1 y1 x2 y2 x0 y0 o2 _ HD.out).mono ?_); rintro e w_ ⟨rfl, hb⟩; replace HB := Aside0.mk (HB.out.trans (hb.mono HB.out.size)); clear hb d0 d1 e0 e1 f0 f1))
   go_ret
   exact ⟨rfl, HB.out⟩
 have KEY := Aside0.mk key
 clear key hK_
 go_region_held3 (fun w' => w'.cell? ⟨b0, 0, none⟩ = some (.int .i64 x0) ∧ w'.cell? ⟨b0, 1, none⟩ = some (.int .i64 y0) ∧ w'.cell? ⟨b0, 2, none⟩ = some (.pointer (some ⟨b1, 0, none⟩)) ∧ w'.cell? ⟨b1, 0, none⟩ = some (.int .i64 x1) ∧ w'.cell? ⟨b1, 1, none⟩ = some (.int .i64 y1) ∧ w'.cell? ⟨b1, 2, none⟩ = some (.pointer (some ⟨b2, 0, none⟩)) ∧ w'.cell? ⟨b2, 0, none⟩ = some (.int .i64 x2) ∧ w'.cell? ⟨b2, 1, none⟩ = some (.int .i64 y2)) ((refine three_keep H0.out H1.out H2.out ?_; exact lb HW.out)) (fail)
 all_goals
  refine KEY.out _ _ _ _ _ _ _ _ _ _ _ _ _ _ _ _ _ _ _ _ _ _ _ _ _ _ ?_ ?_ ?_ ?_
  ·exact lb HW.out
  all_goals first | exact (three_new w _ _ _).1 | exact (three_new w _ _ _).2.1 | exact (three_new w _ _ _).2.2
def impl_sidesMeet.j0 : Nat → Bool → Int → Int → Int → Int → Int → Int → Int → Int → Option (Bool)
 | 0, _, _, _, _, _, _, _, _, _ => none
 | k + 1, x38, x234000, x234001, x235000, x235001, x236000, x236001, x237000, x237001 => if x38 = true then (some true) else ((impl_PointSide.f x234000 x234001 x235000 x235001 x236000 x236001).bind fun bt241 => ((impl_PointSide.f x234000 x234001 x235000 x235001 x237000 x237001).bind fun bt243 => ((impl_PointSide.f x236000 x236001 x237000 x237001 x234000 x234001).bind fun bt245 => ((impl_PointSide.f x236000 x236001 x237000 x237001 x235000 x235001).bind fun bt247 => (if (wrap64 (bt241.1 * bt243.1)) < 0 then (some (decide ((wrap64 (bt245.1 * bt247.1)) < 0))) else (some false))))))
def impl_sidesMeet.f (k : Nat) (a0_0 : Int) (a0_1 : Int) (a1_0 : Int) (a1_1 : Int) (a2_0 : Int) (a2_1 : Int) (a3_0 : Int) (a3_1 : Int) : Option (Bool) := (impl_PointOn.f k a0_0 a0_1 a1_0 a1_1 a2_0 a2_1).bind fun t237 => (if t237 = true then (impl_sidesMeet.j0 k true a0_0 a0_1 a1_0 a1_1 a2_0 a2_1 a3_0 a3_1) else ((impl_PointOn.f k a0_0 a0_1 a1_0 a1_1 a3_0 a3_1).bind fun t238 => (if t238 = true then (impl_sidesMeet.j0 k true a0_0 a0_1 a1_0 a1_1 a2_0 a2_1 a3_0 a3_1) else ((impl_PointOn.f k a2_0 a2_1 a3_0 a3_1 a0_0 a0_1).bind fun t239 => (if t239 = true then (impl_sidesMeet.j0 k true a0_0 a0_1 a1_0 a1_1 a2_0 a2_1 a3_0 a3_1) else ((impl_PointOn.f k a2_0 a2_1 a3_0 a3_1 a1_0 a1_1).bind fun t240 => (impl_sidesMeet.j0 k t240 a0_0 a0_1 a1_0 a1_1 a2_0 a2_1 a3_0 a3_1)))))))
theorem impl_sidesMeet.mono_l : ∀ k, (∀ y0 y1 y2 y3 y4 y5 y6 y7 y8, LeO (impl_sidesMeet.j0 k y0 y1 y2 y3 y4 y5 y6 y7 y8) (impl_sidesMeet.j0 (k + 1) y0 y1 y2 y3 y4 y5 y6 y7 y8))
 | 0 => fun _ _ _ _ _ _ _ _ _ r h => by simp [impl_sidesMeet.j0] at h
 | k + 1 => by
  have ih0 := impl_sidesMeet.mono_l k
  ·intro y0 y1 y2 y3 y4 y5 y6 y7 y8
   unfold impl_sidesMeet.j0
   repeat' first
   | (with_reducible exact ih0 _ _ _ _ _ _ _ _ _)
   | (with_reducible exact impl_PointOn.mono _ _ _ _ _ _ _)
   | (with_reducible exact LeO.refl _)
   | (with_reducible exact LeO.none _)
   | (with_reducible refine LeO.ite ?_ ?_)
   | (with_reducible refine LeO.bind ?_ (fun _ => ?_))
   | exact ih0 _ _ _ _ _ _ _ _ _
   | exact impl_PointOn.mono _ _ _ _ _ _ _
   | exact LeO.none _
   | refine LeO.ite ?_ ?_
   | refine LeO.bind ?_ (fun _ => ?_)
theorem impl_sidesMeet.mono : ∀ a0 a1 a2 a3 a4 a5 a6 a7 k, LeO (impl_sidesMeet.f k a0 a1 a2 a3 a4 a5 a6 a7) (impl_sidesMeet.f (k + 1) a0 a1 a2 a3 a4 a5 a6 a7) := by
 intro a0 a1 a2 a3 a4 a5 a6 a7 k
 have ih0 := impl_sidesMeet.mono_l k
 unfold impl_sidesMeet.f
 repeat' first
   | (with_reducible exact ih0 _ _ _ _ _ _ _ _ _)
   | (with_reducible exact impl_PointOn.mono _ _ _ _ _ _ _)
   | (with_reducible exact LeO.refl _)
   | (with_reducible exact LeO.none _)
   | (with_reducible refine LeO.ite ?_ ?_)
   | (with_reducible refine LeO.bind ?_ (fun _ => ?_))
   | exact ih0 _ _ _ _ _ _ _ _ _
   | exact impl_PointOn.mono _ _ _ _ _ _ _
   | exact LeO.none _
   | refine LeO.ite ?_ ?_
   | refine LeO.bind ?_ (fun _ => ?_)
set_option maxHeartbeats 8000000 in
set_option maxRecDepth 100000 in
theorem impl_sidesMeet.calls (k : Nat) (a0_0 : Int) (a0_1 : Int) (a1_0 : Int) (a1_1 : Int) (a2_0 : Int) (a2_1 : Int) (a3_0 : Int) (a3_1 : Int) (r : Bool) (w : World) (h : impl_sidesMeet.f k a0_0 a0_1 a1_0 a1_1 a2_0 a2_1 a3_0 a3_1 = some r) :
  Calls Try.prog 91 #[.agg #[.int .i64 a0_0, .int .i64 a0_1], .agg #[.int .i64 a1_0, .int .i64 a1_1], .agg #[.int .i64 a2_0, .int .i64 a2_1], .agg #[.int .i64 a3_0, .int .i64 a3_1]] w fun e w' => e = .returned (.bool r) ∧ Below w.heap.size w w' := by
 have hu33 := Try.underlying33
 have HB := Aside0.mk (Below.refl w.heap.size w)
 have H : ((impl_PointOn.f k a0_0 a0_1 a1_0 a1_1 a2_0 a2_1).bind fun t237 => (if t237 = true then (impl_sidesMeet.j0 k true a0_0 a0_1 a1_0 a1_1 a2_0 a2_1 a3_0 a3_1) else ((impl_PointOn.f k a0_0 a0_1 a1_0 a1_1 a3_0 a3_1).bind fun t238 => (if t238 = true then (impl_sidesMeet.j0 k true a0_0 a0_1 a1_0 a1_1 a2_0 a2_1 a3_0 a3_1) else ((impl_PointOn.f k a2_0 a2_1 a3_0 a3_1 a0_0 a0_1).bind fun t239 => (if t239 = true then (impl_sidesMeet.j0 k true a0_0 a0_1 a1_0 a1_1 a2_0 a2_1 a3_0 a3_1) else ((impl_PointOn.f k a2_0 a2_1 a3_0 a3_1 a1_0 a1_1).bind fun t240 => (impl_sidesMeet.j0 k t240 a0_0 a0_1 a1_0 a1_1 a2_0 a2_1 a3_0 a3_1)))))))) = some r := h
 clear h
 have HC5 := Aside0.mk H
 clear H
 go_enter Try.func91, Try.ntmps91
 go_upto_region 1 with (first | ((with_reducible refine gate_dst (N := 4) rfl ?_); refine bx_ 4 (cs := #[.int .i64 a0_0, .int .i64 a0_1]) (t := 33) ?_; intro gb233 hg w6 hbox hb; have n0_ := Aside0.mk (below_step (lb HB.out) hb); have n1_ := Aside0.mk (hbox); have n2_ := Aside0.mk ((by rw [hg]; exact (below_size (lb HB.out)) : w.heap.size ≤ gb233)); have n3_ := Aside0.mk ((by rw [hg]; exact (below_size (lb HB.out)) : w.heap.size ≤ gb233)); clear HB; have HB := n0_; have BK233 := n1_; have GW233 := n2_; have GE233 := n3_; clear n0_ n1_ n2_ n3_; clear hb hbox hg) | ((with_reducible refine gate_dst (N := 5) rfl ?_); refine bx_ 5 (cs := #[.int .i64 a1_0, .int .i64 a1_1]) (t := 33) ?_; intro gb234 hg w7 hbox hb; have n0_ := Aside0.mk (blk_below (bf BK233.out) hb); have n1_ := Aside0.mk (below_step (lb HB.out) hb); have n2_ := Aside0.mk (hbox); have n3_ := Aside0.mk ((by rw [hg]; exact (below_size (lb HB.out)) : w.heap.size ≤ gb234)); have n4_ := Aside0.mk ((by rw [hg]; exact (below_size (lb HB.out)) : w.heap.size ≤ gb234)); have n5_ := Aside0.mk ((by rw [hg]; exact Nat.ne_of_lt (blk_lt (bf BK233.out)) : gb233 ≠ gb234)); have n6_ := Aside0.mk ((by rw [hg]; exact Nat.ne_of_gt (blk_lt (bf BK233.out)) : gb234 ≠ gb233)); clear BK233; clear HB; have BK233 := n0_; have HB := n1_; have BK234 := n2_; have GW234 := n3_; have GE234 := n4_; have NB233_234 := n5_; have NB234_233 := n6_; clear n0_ n1_ n2_ n3_ n4_ n5_ n6_; clear hb hbox hg) | ((with_reducible refine gate_dst (N := 6) rfl ?_); refine bx_ 6 (cs := #[.int .i64 a2_0, .int .i64 a2_1]) (t := 33) ?_; intro gb235 hg w8 hbox hb; have n0_ := Aside0.mk (blk_below (bf BK233.out) hb); have n1_ := Aside0.mk (blk_below (bf BK234.out) hb); have n2_ := Aside0.mk (below_step (lb HB.out) hb); have n3_ := Aside0.mk (hbox); have n4_ := Aside0.mk ((by rw [hg]; exact (below_size (lb HB.out)) : w.heap.size ≤ gb235)); have n5_ := Aside0.mk ((by rw [hg]; exact (below_size (lb HB.out)) : w.heap.size ≤ gb235)); have n6_ := Aside0.mk ((by rw [hg]; exact Nat.ne_of_lt (blk_lt (bf BK233.out)) : gb233 ≠ gb235)); have n7_ := Aside0.mk ((by rw [hg]; exact Nat.ne_of_gt (blk_lt (bf BK233.out)) : gb235 ≠ gb233)); have n8_ := Aside0.mk ((by rw [hg]; exact Nat.ne_of_lt (blk_lt (bf BK234.out)) : gb234 ≠ gb235)); have n9_ := Aside0.mk ((by rw [hg]; exact Nat.ne_of_gt (blk_lt (bf BK234.out)) : gb235 ≠ gb234)); clear BK233; clear BK234; clear HB; have BK233 := n0_; have BK234 := n1_; have HB := n2_; have BK235 := n3_; have GW235 := n4_; have GE235 := n5_; have NB233_235 := n6_; have NB235_233 := n7_; have NB234_235 := n8_; have NB235_234 := n9_; clear n0_ n1_ n2_ n3_ n4_ n5_ n6_ n7_ n8_ n9_; clear hb hbox hg) | ((with_reducible refine gate_dst (N := 7) rfl ?_); refine bx_ 7 (cs := #[.int .i64 a3_0, .int .i64 a3_1]) (t := 33) ?_; intro gb236 hg w9 hbox hb; have n0_ := Aside0.mk (blk_below (bf BK233.out) hb); have n1_ := Aside0.mk (blk_below (bf BK234.out) hb); have n2_ := Aside0.mk (blk_below (bf BK235.out) hb); have n3_ := Aside0.mk (below_step (lb HB.out) hb); have n4_ := Aside0.mk (hbox); have n5_ := Aside0.mk ((by rw [hg]; exact (below_size (lb HB.out)) : w.heap.size ≤ gb236)); have n6_ := Aside0.mk ((by rw [hg]; exact (below_size (lb HB.out)) : w.heap.size ≤ gb236)); have n7_ := Aside0.mk ((by rw [hg]; exact Nat.ne_of_lt (blk_lt (bf BK233.out)) : gb233 ≠ gb236)); have n8_ := Aside0.mk ((by rw [hg]; exact Nat.ne_of_gt (blk_lt (bf BK233.out)) : gb236 ≠ gb233)); have n9_ := Aside0.mk ((by rw [hg]; exact Nat.ne_of_lt (blk_lt (bf BK234.out)) : gb234 ≠ gb236)); have n10_ := Aside0.mk ((by rw [hg]; exact Nat.ne_of_gt (blk_lt (bf BK234.out)) : gb236 ≠ gb234)); have n11_ := Aside0.mk ((by rw [hg]; exact Nat.ne_of_lt (blk_lt (bf BK235.out)) : gb235 ≠ gb236)); have n12_ := Aside0.mk ((by rw [hg]; exact Nat.ne_of_gt (blk_lt (bf BK235.out)) : gb236 ≠ gb235)); clear BK233; clear BK234; clear BK235; clear HB; have BK233 := n0_; have BK234 := n1_; have BK235 := n2_; have HB := n3_; have BK236 := n4_; have GW236 := n5_; have GE236 := n6_; have NB233_236 := n7_; have NB236_233 := n8_; have NB234_236 := n9_; have NB236_234 := n10_; have NB235_236 := n11_; have NB236_235 := n12_; clear n0_ n1_ n2_ n3_ n4_ n5_ n6_ n7_ n8_ n9_ n10_ n11_ n12_; clear hb hbox hg))
 (try simp only [Act.put, List.setIfInBounds_toArray, List.set_cons_zero, List.set_cons_succ])
 go_cut [38] (fun v38 wc => ∃ (kq : Nat) (x38_4 : Bool), v38 = .bool x38_4 ∧ Aside0 (impl_sidesMeet.j0 kq x38_4 a0_0 a0_1 a1_0 a1_1 a2_0 a2_1 a3_0 a3_1 = some r) ∧ Aside0 (kq ≤ k) ∧ Aside0 (wc.heap[gb233]? = some (.cells #[.int .i64 a0_0, .int .i64 a0_1] 33 (0, 0))) ∧ Aside0 (wc.heap[gb234]? = some (.cells #[.int .i64 a1_0, .int .i64 a1_1] 33 (0, 0))) ∧ Aside0 (wc.heap[gb235]? = some (.cells #[.int .i64 a2_0, .int .i64 a2_1] 33 (0, 0))) ∧ Aside0 (wc.heap[gb236]? = some (.cells #[.int .i64 a3_0, .int .i64 a3_1] 33 (0, 0))) ∧ Aside0 (Below w.heap.size w wc))
 case first =>
  have H := HC5.out
  clear HC5
  replace H := Option.bind_eq_some_iff.mp H
  obtain ⟨t237, A100, H⟩ := H
  replace H : (if t237 = true then (impl_sidesMeet.j0 k true a0_0 a0_1 a1_0 a1_1 a2_0 a2_1 a3_0 a3_1) else ((impl_PointOn.f k a0_0 a0_1 a1_0 a1_1 a3_0 a3_1).bind fun t238 => (if t238 = true then (impl_sidesMeet.j0 k true a0_0 a0_1 a1_0 a1_1 a2_0 a2_1 a3_0 a3_1) else ((impl_PointOn.f k a2_0 a2_1 a3_0 a3_1 a0_0 a0_1).bind fun t239 => (if t239 = true then (impl_sidesMeet.j0 k true a0_0 a0_1 a1_0 a1_1 a2_0 a2_1 a3_0 a3_1) else ((impl_PointOn.f k a2_0 a2_1 a3_0 a3_1 a1_0 a1_1).bind fun t240 => (impl_sidesMeet.j0 k t240 a0_0 a0_1 a1_0 a1_1 a2_0 a2_1 a3_0 a3_1))))))) = some r := H
  have A10 := Aside0.mk A100
  clear A100
  by_cases c11 : t237 = true
  ·subst c11
   have H1 : (impl_sidesMeet.j0 k true a0_0 a0_1 a1_0 a1_1 a2_0 a2_1 a3_0 a3_1) = some r := by rw [if_pos rfl] at H; exact H
   clear H
   have H := H1
   clear H1
   have H' := Aside0.mk H
   clear H
   have hnb12 := NB233_234.out
   have hnc12 := NB234_233.out
   have hnb13 := NB233_235.out
   have hnc13 := NB235_233.out
   have hnb14 := NB233_236.out
   have hnc14 := NB236_233.out
   have hcz15_0 : w9.cell? ⟨gb233, 0, none⟩ = some (.int .i64 a0_0) := (blk_cell BK233.out 0).trans rfl
   have hcz15_1 : w9.cell? ⟨gb233, 1, none⟩ = some (.int .i64 a0_1) := (blk_cell BK233.out 1).trans rfl
   have hfz15_0 := blk_frozen BK233.out 0
   have hfz15_1 := blk_frozen BK233.out 1
   have hnb16 := NB234_235.out
   have hnc16 := NB235_234.out
   have hnb17 := NB234_236.out
   have hnc17 := NB236_234.out
   have hcz18_0 : w9.cell? ⟨gb234, 0, none⟩ = some (.int .i64 a1_0) := (blk_cell BK234.out 0).trans rfl
   have hcz18_1 : w9.cell? ⟨gb234, 1, none⟩ = some (.int .i64 a1_1) := (blk_cell BK234.out 1).trans rfl
   have hfz18_0 := blk_frozen BK234.out 0
   have hfz18_1 := blk_frozen BK234.out 1
   have hnb19 := NB235_236.out
   have hnc19 := NB236_235.out
   have hcz20_0 : w9.cell? ⟨gb235, 0, none⟩ = some (.int .i64 a2_0) := (blk_cell BK235.out 0).trans rfl
   have hcz20_1 : w9.cell? ⟨gb235, 1, none⟩ = some (.int .i64 a2_1) := (blk_cell BK235.out 1).trans rfl
   have hfz20_0 := blk_frozen BK235.out 0
   have hfz20_1 := blk_frozen BK235.out 1
   go_wp2_with (first | ((with_reducible refine gate_callee (f := 25) rfl ?_); refine goesL_ (some 20) rfl rfl Try.func25 (by kernel_rfl) rfl #[.agg #[.int .i64 a0_0, .int .i64 a0_1], .agg #[.int .i64 a1_0, .int .i64 a1_1], .agg #[.int .i64 a2_0, .int .i64 a2_1]] rfl al ?_; (with_reducible refine (impl_PointOn.calls k a0_0 a0_1 a1_0 a1_1 a2_0 a2_1 true _ A10.out).mono ?_); rintro e w21 ⟨rfl, hb⟩; refine ⟨_, rfl, ?_⟩; have n0_ := Aside0.mk (blk_below (bf BK233.out) hb); have n1_ := Aside0.mk (blk_below (bf BK234.out) hb); have n2_ := Aside0.mk (blk_below (bf BK235.out) hb); have n3_ := Aside0.mk (blk_below (bf BK236.out) hb); have n4_ := Aside0.mk (below_step (lb HB.out) hb); clear BK233; clear BK234; clear BK235; clear BK236; clear HB; have BK233 := n0_; have BK234 := n1_; have BK235 := n2_; have BK236 := n3_; have HB := n4_; clear n0_ n1_ n2_ n3_ n4_; (try clear hb); (try clear hb2); (try clear hk); (try clear hi)))
   go_meet
   case rel => exact ⟨_, (true), (by first | rfl | (simp; done) | (simp [*]; done)), H', ⟨by first | omega | exact Nat.le_refl _⟩, ⟨bu BK233.out⟩, ⟨bu BK234.out⟩, ⟨bu BK235.out⟩, ⟨bu BK236.out⟩, ⟨lb HB.out⟩⟩
  ·replace c11 := Bool.eq_false_iff.mpr c11
   subst c11
   have H1 : ((impl_PointOn.f k a0_0 a0_1 a1_0 a1_1 a3_0 a3_1).bind fun t238 => (if t238 = true then (impl_sidesMeet.j0 k true a0_0 a0_1 a1_0 a1_1 a2_0 a2_1 a3_0 a3_1) else ((impl_PointOn.f k a2_0 a2_1 a3_0 a3_1 a0_0 a0_1).bind fun t239 => (if t239 = true then (impl_sidesMeet.j0 k true a0_0 a0_1 a1_0 a1_1 a2_0 a2_1 a3_0 a3_1) else ((impl_PointOn.f k a2_0 a2_1 a3_0 a3_1 a1_0 a1_1).bind fun t240 => (impl_sidesMeet.j0 k t240 a0_0 a0_1 a1_0 a1_1 a2_0 a2_1 a3_0 a3_1)))))) = some r := by rw [if_neg (show ¬ (false = true) by decide)] at H; exact H
   clear H
   have H := H1
   clear H1
   replace H := Option.bind_eq_some_iff.mp H
   obtain ⟨t238, A220, H⟩ := H
   replace H : (if t238 = true then (impl_sidesMeet.j0 k true a0_0 a0_1 a1_0 a1_1 a2_0 a2_1 a3_0 a3_1) else ((impl_PointOn.f k a2_0 a2_1 a3_0 a3_1 a0_0 a0_1).bind fun t239 => (if t239 = true then (impl_sidesMeet.j0 k true a0_0 a0_1 a1_0 a1_1 a2_0 a2_1 a3_0 a3_1) else ((impl_PointOn.f k a2_0 a2_1 a3_0 a3_1 a1_0 a1_1).bind fun t240 => (impl_sidesMeet.j0 k t240 a0_0 a0_1 a1_0 a1_1 a2_0 a2_1 a3_0 a3_1))))) = some r := H
   have A22 := Aside0.mk A220
   clear A220
   by_cases c23 : t238 = true
   ·subst c23
    have H1 : (impl_sidesMeet.j0 k true a0_0 a0_1 a1_0 a1_1 a2_0 a2_1 a3_0 a3_1) = some r := by rw [if_pos rfl] at H; exact H
    clear H
    have H := H1
    clear H1
    have H' := Aside0.mk H
    clear H
    have hnb24 := NB233_234.out
    have hnc24 := NB234_233.out
    have hnb25 := NB233_235.out
    have hnc25 := NB235_233.out
    have hnb26 := NB233_236.out
    have hnc26 := NB236_233.out
    have hcz27_0 : w9.cell? ⟨gb233, 0, none⟩ = some (.int .i64 a0_0) := (blk_cell BK233.out 0).trans rfl
    have hcz27_1 : w9.cell? ⟨gb233, 1, none⟩ = some (.int .i64 a0_1) := (blk_cell BK233.out 1).trans rfl
    have hfz27_0 := blk_frozen BK233.out 0
    have hfz27_1 := blk_frozen BK233.out 1
    have hnb28 := NB234_235.out
    have hnc28 := NB235_234.out
    have hnb29 := NB234_236.out
    have hnc29 := NB236_234.out
    have hcz30_0 : w9.cell? ⟨gb234, 0, none⟩ = some (.int .i64 a1_0) := (blk_cell BK234.out 0).trans rfl
    have hcz30_1 : w9.cell? ⟨gb234, 1, none⟩ = some (.int .i64 a1_1) := (blk_cell BK234.out 1).trans rfl
    have hfz30_0 := blk_frozen BK234.out 0
    have hfz30_1 := blk_frozen BK234.out 1
    have hnb31 := NB235_236.out
    have hnc31 := NB236_235.out
    have hcz32_0 : w9.cell? ⟨gb235, 0, none⟩ = some (.int .i64 a2_0) := (blk_cell BK235.out 0).trans rfl
    have hcz32_1 : w9.cell? ⟨gb235, 1, none⟩ = some (.int .i64 a2_1) := (blk_cell BK235.out 1).trans rfl
    have hfz32_0 := blk_frozen BK235.out 0
    have hfz32_1 := blk_frozen BK235.out 1
    go_wp2_with (first | ((with_reducible refine gate_callee (f := 25) rfl ?_); refine goesL_ (some 20) rfl rfl Try.func25 (by kernel_rfl) rfl #[.agg #[.int .i64 a0_0, .int .i64 a0_1], .agg #[.int .i64 a1_0, .int .i64 a1_1], .agg #[.int .i64 a2_0, .int .i64 a2_1]] rfl al ?_; (with_reducible refine (impl_PointOn.calls k a0_0 a0_1 a1_0 a1_1 a2_0 a2_1 false _ A10.out).mono ?_); rintro e w33 ⟨rfl, hb⟩; refine ⟨_, rfl, ?_⟩; have n0_ := Aside0.mk (blk_below (bf BK233.out) hb); have n1_ := Aside0.mk (blk_below (bf BK234.out) hb); have n2_ := Aside0.mk (blk_below (bf BK235.out) hb); have n3_ := Aside0.mk (blk_below (bf BK236.out) hb); have n4_ := Aside0.mk (below_step (lb HB.out) hb); clear BK233; clear BK234; clear BK235; clear BK236; clear HB; have BK233 := n0_; have BK234 := n1_; have BK235 := n2_; have BK236 := n3_; have HB := n4_; clear n0_ n1_ n2_ n3_ n4_; (try clear hb); (try clear hb2); (try clear hk); (try clear hi); have hcz34_0 : w33.cell? ⟨gb233, 0, none⟩ = some (.int .i64 a0_0) := (blk_cell BK233.out 0).trans rfl; have hcz34_1 : w33.cell? ⟨gb233, 1, none⟩ = some (.int .i64 a0_1) := (blk_cell BK233.out 1).trans rfl; have hfz34_0 := blk_frozen BK233.out 0; have hfz34_1 := blk_frozen BK233.out 1; have hcz35_0 : w33.cell? ⟨gb234, 0, none⟩ = some (.int .i64 a1_0) := (blk_cell BK234.out 0).trans rfl; have hcz35_1 : w33.cell? ⟨gb234, 1, none⟩ = some (.int .i64 a1_1) := (blk_cell BK234.out 1).trans rfl; have hfz35_0 := blk_frozen BK234.out 0; have hfz35_1 := blk_frozen BK234.out 1; have hcz36_0 : w33.cell? ⟨gb236, 0, none⟩ = some (.int .i64 a3_0) := (blk_cell BK236.out 0).trans rfl; have hcz36_1 : w33.cell? ⟨gb236, 1, none⟩ = some (.int .i64 a3_1) := (blk_cell BK236.out 1).trans rfl; have hfz36_0 := blk_frozen BK236.out 0; have hfz36_1 := blk_frozen BK236.out 1) | (go_at_call 25; (with_reducible refine (impl_PointOn.calls k a0_0 a0_1 a1_0 a1_1 a3_0 a3_1 true _ A22.out).mono ?_); rintro e w37 ⟨rfl, hb⟩; have n0_ := Aside0.mk (blk_below (bf BK233.out) hb); have n1_ := Aside0.mk (blk_below (bf BK234.out) hb); have n2_ := Aside0.mk (blk_below (bf BK235.out) hb); have n3_ := Aside0.mk (blk_below (bf BK236.out) hb); have n4_ := Aside0.mk (below_step (lb HB.out) hb); clear BK233; clear BK234; clear BK235; clear BK236; clear HB; have BK233 := n0_; have BK234 := n1_; have BK235 := n2_; have BK236 := n3_; have HB := n4_; clear n0_ n1_ n2_ n3_ n4_; (try clear hb); (try clear hb2); (try clear hk); (try clear hi)))
    go_meet
    case rel => exact ⟨_, (true), (by first | rfl | (simp; done) | (simp [*]; done)), H', ⟨by first | omega | exact Nat.le_refl _⟩, ⟨bu BK233.out⟩, ⟨bu BK234.out⟩, ⟨bu BK235.out⟩, ⟨bu BK236.out⟩, ⟨lb HB.out⟩⟩
   ·replace c23 := Bool.eq_false_iff.mpr c23
    subst c23
    have H1 : ((impl_PointOn.f k a2_0 a2_1 a3_0 a3_1 a0_0 a0_1).bind fun t239 => (if t239 = true then (impl_sidesMeet.j0 k true a0_0 a0_1 a1_0 a1_1 a2_0 a2_1 a3_0 a3_1) else ((impl_PointOn.f k a2_0 a2_1 a3_0 a3_1 a1_0 a1_1).bind fun t240 => (impl_sidesMeet.j0 k t240 a0_0 a0_1 a1_0 a1_1 a2_0 a2_1 a3_0 a3_1)))) = some r := by rw [if_neg (show ¬ (false = true) by decide)] at H; exact H
    clear H
    have H := H1
    clear H1
    replace H := Option.bind_eq_some_iff.mp H
    obtain ⟨t239, A380, H⟩ := H
    replace H : (if t239 = true then (impl_sidesMeet.j0 k true a0_0 a0_1 a1_0 a1_1 a2_0 a2_1 a3_0 a3_1) else ((impl_PointOn.f k a2_0 a2_1 a3_0 a3_1 a1_0 a1_1).bind fun t240 => (impl_sidesMeet.j0 k t240 a0_0 a0_1 a1_0 a1_1 a2_0 a2_1 a3_0 a3_1))) = some r := H
    have A38 := Aside0.mk A380
    clear A380
    by_cases c39 : t239 = true
    ·subst c39
     have H1 : (impl_sidesMeet.j0 k true a0_0 a0_1 a1_0 a1_1 a2_0 a2_1 a3_0 a3_1) = some r := by rw [if_pos rfl] at H; exact H
     clear H
     have H := H1
     clear H1
     have H' := Aside0.mk H
     clear H
     have hnb40 := NB233_234.out
     have hnc40 := NB234_233.out
     have hnb41 := NB233_235.out
     have hnc41 := NB235_233.out
     have hnb42 := NB233_236.out
     have hnc42 := NB236_233.out
     have hcz43_0 : w9.cell? ⟨gb233, 0, none⟩ = some (.int .i64 a0_0) := (blk_cell BK233.out 0).trans rfl
     have hcz43_1 : w9.cell? ⟨gb233, 1, none⟩ = some (.int .i64 a0_1) := (blk_cell BK233.out 1).trans rfl
     have hfz43_0 := blk_frozen BK233.out 0
     have hfz43_1 := blk_frozen BK233.out 1
     have hnb44 := NB234_235.out
     have hnc44 := NB235_234.out
     have hnb45 := NB234_236.out
     have hnc45 := NB236_234.out
     have hcz46_0 : w9.cell? ⟨gb234, 0, none⟩ = some (.int .i64 a1_0) := (blk_cell BK234.out 0).trans rfl
     have hcz46_1 : w9.cell? ⟨gb234, 1, none⟩ = some (.int .i64 a1_1) := (blk_cell BK234.out 1).trans rfl
     have hfz46_0 := blk_frozen BK234.out 0
     have hfz46_1 := blk_frozen BK234.out 1
     have hnb47 := NB235_236.out
     have hnc47 := NB236_235.out
     have hcz48_0 : w9.cell? ⟨gb235, 0, none⟩ = some (.int .i64 a2_0) := (blk_cell BK235.out 0).trans rfl
     have hcz48_1 : w9.cell? ⟨gb235, 1, none⟩ = some (.int .i64 a2_1) := (blk_cell BK235.out 1).trans rfl
     have hfz48_0 := blk_frozen BK235.out 0
     have hfz48_1 := blk_frozen BK235.out 1
     go_wp2_with (first | ((with_reducible refine gate_callee (f := 25) rfl ?_); refine goesL_ (some 20) rfl rfl Try.func25 (by kernel_rfl) rfl #[.agg #[.int .i64 a0_0, .int .i64 a0_1], .agg #[.int .i64 a1_0, .int .i64 a1_1], .agg #[.int .i64 a2_0, .int .i64 a2_1]] rfl al ?_; (with_reducible refine (impl_PointOn.calls k a0_0 a0_1 a1_0 a1_1 a2_0 a2_1 false _ A10.out).mono ?_); rintro e w49 ⟨rfl, hb⟩; refine ⟨_, rfl, ?_⟩; have n0_ := Aside0.mk (blk_below (bf BK233.out) hb); have n1_ := Aside0.mk (blk_below (bf BK234.out) hb); have n2_ := Aside0.mk (blk_below (bf BK235.out) hb); have n3_ := Aside0.mk (blk_below (bf BK236.out) hb); have n4_ := Aside0.mk (below_step (lb HB.out) hb); clear BK233; clear BK234; clear BK235; clear BK236; clear HB; have BK233 := n0_; have BK234 := n1_; have BK235 := n2_; have BK236 := n3_; have HB := n4_; clear n0_ n1_ n2_ n3_ n4_; (try clear hb); (try clear hb2); (try clear hk); (try clear hi); have hcz50_0 : w49.cell? ⟨gb233, 0, none⟩ = some (.int .i64 a0_0) := (blk_cell BK233.out 0).trans rfl; have hcz50_1 : w49.cell? ⟨gb233, 1, none⟩ = some (.int .i64 a0_1) := (blk_cell BK233.out 1).trans rfl; have hfz50_0 := blk_frozen BK233.out 0; have hfz50_1 := blk_frozen BK233.out 1; have hcz51_0 : w49.cell? ⟨gb234, 0, none⟩ = some (.int .i64 a1_0) := (blk_cell BK234.out 0).trans rfl; have hcz51_1 : w49.cell? ⟨gb234, 1, none⟩ = some (.int .i64 a1_1) := (blk_cell BK234.out 1).trans rfl; have hfz51_0 := blk_frozen BK234.out 0; have hfz51_1 := blk_frozen BK234.out 1; have hcz52_0 : w49.cell? ⟨gb236, 0, none⟩ = some (.int .i64 a3_0) := (blk_cell BK236.out 0).trans rfl; have hcz52_1 : w49.cell? ⟨gb236, 1, none⟩ = some (.int .i64 a3_1) := (blk_cell BK236.out 1).trans rfl; have hfz52_0 := blk_frozen BK236.out 0; have hfz52_1 := blk_frozen BK236.out 1) | (go_at_call 25; (with_reducible refine (impl_PointOn.calls k a0_0 a0_1 a1_0 a1_1 a3_0 a3_1 false _ A22.out).mono ?_); rintro e w53 ⟨rfl, hb⟩; have n0_ := Aside0.mk (blk_below (bf BK233.out) hb); have n1_ := Aside0.mk (blk_below (bf BK234.out) hb); have n2_ := Aside0.mk (blk_below (bf BK235.out) hb); have n3_ := Aside0.mk (blk_below (bf BK236.out) hb); have n4_ := Aside0.mk (below_step (lb HB.out) hb); clear BK233; clear BK234; clear BK235; clear BK236; clear HB; have BK233 := n0_; have BK234 := n1_; have BK235 := n2_; have BK236 := n3_; have HB := n4_; clear n0_ n1_ n2_ n3_ n4_; (try clear hb); (try clear hb2); (try clear hk); (try clear hi); have hcz54_0 : w53.cell? ⟨gb235, 0, none⟩ = some (.int .i64 a2_0) := (blk_cell BK235.out 0).trans rfl; have hcz54_1 : w53.cell? ⟨gb235, 1, none⟩ = some (.int .i64 a2_1) := (blk_cell BK235.out 1).trans rfl; have hfz54_0 := blk_frozen BK235.out 0; have hfz54_1 := blk_frozen BK235.out 1; have hcz55_0 : w53.cell? ⟨gb236, 0, none⟩ = some (.int .i64 a3_0) := (blk_cell BK236.out 0).trans rfl; have hcz55_1 : w53.cell? ⟨gb236, 1, none⟩ = some (.int .i64 a3_1) := (blk_cell BK236.out 1).trans rfl; have hfz55_0 := blk_frozen BK236.out 0; have hfz55_1 := blk_frozen BK236.out 1; have hcz56_0 : w53.cell? ⟨gb233, 0, none⟩ = some (.int .i64 a0_0) := (blk_cell BK233.out 0).trans rfl; have hcz56_1 : w53.cell? ⟨gb233, 1, none⟩ = some (.int .i64 a0_1) := (blk_cell BK233.out 1).trans rfl; have hfz56_0 := blk_frozen BK233.out 0; have hfz56_1 := blk_frozen BK233.out 1) | (go_at_call 25; (with_reducible refine (impl_PointOn.calls k a2_0 a2_1 a3_0 a3_1 a0_0 a0_1 true _ A38.out).mono ?_); rintro e w57 ⟨rfl, hb⟩; have n0_ := Aside0.mk (blk_below (bf BK233.out) hb); have n1_ := Aside0.mk (blk_below (bf BK234.out) hb); have n2_ := Aside0.mk (blk_below (bf BK235.out) hb); have n3_ := Aside0.mk (blk_below (bf BK236.out) hb); have n4_ := Aside0.mk (below_step (lb HB.out) hb); clear BK233; clear BK234; clear BK235; clear BK236; clear HB; have BK233 := n0_; have BK234 := n1_; have BK235 := n2_; have BK236 := n3_; have HB := n4_; clear n0_ n1_ n2_ n3_ n4_; (try clear hb); (try clear hb2); (try clear hk); (try clear hi)))
     go_meet
     case rel => exact ⟨_, (true), (by first | rfl | (simp; done) | (simp [*]; done)), H', ⟨by first | omega | exact Nat.le_refl _⟩, ⟨bu BK233.out⟩, ⟨bu BK234.out⟩, ⟨bu BK235.out⟩, ⟨bu BK236.out⟩, ⟨lb HB.out⟩⟩
    ·replace c39 := Bool.eq_false_iff.mpr c39
     subst c39
     have H1 : ((impl_PointOn.f k a2_0 a2_1 a3_0 a3_1 a1_0 a1_1).bind fun t240 => (impl_sidesMeet.j0 k t240 a0_0 a0_1 a1_0 a1_1 a2_0 a2_1 a3_0 a3_1)) = some r := by rw [if_neg (show ¬ (false = true) by decide)] at H; exact H
     clear H
     have H := H1
     clear H1
     replace H := Option.bind_eq_some_iff.mp H
     obtain ⟨t240, A580, H⟩ := H
     replace H : (impl_sidesMeet.j0 k t240 a0_0 a0_1 a1_0 a1_1 a2_0 a2_1 a3_0 a3_1) = some r := H
     have A58 := Aside0.mk A580
     clear A580
     have H' := Aside0.mk H
     clear H
     have hnb59 := NB233_234.out
     have hnc59 := NB234_233.out
     have hnb60 := NB233_235.out
     have hnc60 := NB235_233.out
     have hnb61 := NB233_236.out
     have hnc61 := NB236_233.out
     have hcz62_0 : w9.cell? ⟨gb233, 0, none⟩ = some (.int .i64 a0_0) := (blk_cell BK233.out 0).trans rfl
     have hcz62_1 : w9.cell? ⟨gb233, 1, none⟩ = some (.int .i64 a0_1) := (blk_cell BK233.out 1).trans rfl
     have hfz62_0 := blk_frozen BK233.out 0
     have hfz62_1 := blk_frozen BK233.out 1
     have hnb63 := NB234_235.out
     have hnc63 := NB235_234.out
     have hnb64 := NB234_236.out
     have hnc64 := NB236_234.out
     have hcz65_0 : w9.cell? ⟨gb234, 0, none⟩ = some (.int .i64 a1_0) := (blk_cell BK234.out 0).trans rfl
     have hcz65_1 : w9.cell? ⟨gb234, 1, none⟩ = some (.int .i64 a1_1) := (blk_cell BK234.out 1).trans rfl
     have hfz65_0 := blk_frozen BK234.out 0
     have hfz65_1 := blk_frozen BK234.out 1
     have hnb66 := NB235_236.out
     have hnc66 := NB236_235.out
     have hcz67_0 : w9.cell? ⟨gb235, 0, none⟩ = some (.int .i64 a2_0) := (blk_cell BK235.out 0).trans rfl
     have hcz67_1 : w9.cell? ⟨gb235, 1, none⟩ = some (.int .i64 a2_1) := (blk_cell BK235.out 1).trans rfl
     have hfz67_0 := blk_frozen BK235.out 0
     have hfz67_1 := blk_frozen BK235.out 1
     go_wp2_with (first | ((with_reducible refine gate_callee (f := 25) rfl ?_); refine goesL_ (some 20) rfl rfl Try.func25 (by kernel_rfl) rfl #[.agg #[.int .i64 a0_0, .int .i64 a0_1], .agg #[.int .i64 a1_0, .int .i64 a1_1], .agg #[.int .i64 a2_0, .int .i64 a2_1]] rfl al ?_; (with_reducible refine (impl_PointOn.calls k a0_0 a0_1 a1_0 a1_1 a2_0 a2_1 false _ A10.out).mono ?_); rintro e w68 ⟨rfl, hb⟩; refine ⟨_, rfl, ?_⟩; have n0_ := Aside0.mk (blk_below (bf BK233.out) hb); have n1_ := Aside0.mk (blk_below (bf BK234.out) hb); have n2_ := Aside0.mk (blk_below (bf BK235.out) hb); have n3_ := Aside0.mk (blk_below (bf BK236.out) hb); have n4_ := Aside0.mk (below_step (lb HB.out) hb); clear BK233; clear BK234; clear BK235; clear BK236; clear HB; have BK233 := n0_; have BK234 := n1_; have BK235 := n2_; have BK236 := n3_; have HB := n4_; clear n0_ n1_ n2_ n3_ n4_; (try clear hb); (try clear hb2); (try clear hk); (try clear hi); have hcz69_0 : w68.cell? ⟨gb233, 0, none⟩ = some (.int .i64 a0_0) := (blk_cell BK233.out 0).trans rfl; have hcz69_1 : w68.cell? ⟨gb233, 1, none⟩ = some (.int .i64 a0_1) := (blk_cell BK233.out 1).trans rfl; have hfz69_0 := blk_frozen BK233.out 0; have hfz69_1 := blk_frozen BK233.out 1; have hcz70_0 : w68.cell? ⟨gb234, 0, none⟩ = some (.int .i64 a1_0) := (blk_cell BK234.out 0).trans rfl; have hcz70_1 : w68.cell? ⟨gb234, 1, none⟩ = some (.int .i64 a1_1) := (blk_cell BK234.out 1).trans rfl; have hfz70_0 := blk_frozen BK234.out 0; have hfz70_1 := blk_frozen BK234.out 1; have hcz71_0 : w68.cell? ⟨gb236, 0, none⟩ = some (.int .i64 a3_0) := (blk_cell BK236.out 0).trans rfl; have hcz71_1 : w68.cell? ⟨gb236, 1, none⟩ = some (.int .i64 a3_1) := (blk_cell BK236.out 1).trans rfl; have hfz71_0 := blk_frozen BK236.out 0; have hfz71_1 := blk_frozen BK236.out 1) | (go_at_call 25; (with_reducible refine (impl_PointOn.calls k a0_0 a0_1 a1_0 a1_1 a3_0 a3_1 false _ A22.out).mono ?_); rintro e w72 ⟨rfl, hb⟩; have n0_ := Aside0.mk (blk_below (bf BK233.out) hb); have n1_ := Aside0.mk (blk_below (bf BK234.out) hb); have n2_ := Aside0.mk (blk_below (bf BK235.out) hb); have n3_ := Aside0.mk (blk_below (bf BK236.out) hb); have n4_ := Aside0.mk (below_step (lb HB.out) hb); clear BK233; clear BK234; clear BK235; clear BK236; clear HB; have BK233 := n0_; have BK234 := n1_; have BK235 := n2_; have BK236 := n3_; have HB := n4_; clear n0_ n1_ n2_ n3_ n4_; (try clear hb); (try clear hb2); (try clear hk); (try clear hi); have hcz73_0 : w72.cell? ⟨gb235, 0, none⟩ = some (.int .i64 a2_0) := (blk_cell BK235.out 0).trans rfl; have hcz73_1 : w72.cell? ⟨gb235, 1, none⟩ = some (.int .i64 a2_1) := (blk_cell BK235.out 1).trans rfl; have hfz73_0 := blk_frozen BK235.out 0; have hfz73_1 := blk_frozen BK235.out 1; have hcz74_0 : w72.cell? ⟨gb236, 0, none⟩ = some (.int .i64 a3_0) := (blk_cell BK236.out 0).trans rfl; have hcz74_1 : w72.cell? ⟨gb236, 1, none⟩ = some (.int .i64 a3_1) := (blk_cell BK236.out 1).trans rfl; have hfz74_0 := blk_frozen BK236.out 0; have hfz74_1 := blk_frozen BK236.out 1; have hcz75_0 : w72.cell? ⟨gb233, 0, none⟩ = some (.int .i64 a0_0) := (blk_cell BK233.out 0).trans rfl; have hcz75_1 : w72.cell? ⟨gb233, 1, none⟩ = some (.int .i64 a0_1) := (blk_cell BK233.out 1).trans rfl; have hfz75_0 := blk_frozen BK233.out 0; have hfz75_1 := blk_frozen BK233.out 1) | (go_at_call 25; (with_reducible refine (impl_PointOn.calls k a2_0 a2_1 a3_0 a3_1 a0_0 a0_1 false _ A38.out).mono ?_); rintro e w76 ⟨rfl, hb⟩; have n0_ := Aside0.mk (blk_below (bf BK233.out) hb); have n1_ := Aside0.mk (blk_below (bf BK234.out) hb); have n2_ := Aside0.mk (blk_below (bf BK235.out) hb); have n3_ := Aside0.mk (blk_below (bf BK236.out) hb); have n4_ := Aside0.mk (below_step (lb HB.out) hb); clear BK233; clear BK234; clear BK235; clear BK236; clear HB; have BK233 := n0_; have BK234 := n1_; have BK235 := n2_; have BK236 := n3_; have HB := n4_; clear n0_ n1_ n2_ n3_ n4_; (try clear hb); (try clear hb2); (try clear hk); (try clear hi); have hcz77_0 : w76.cell? ⟨gb235, 0, none⟩ = some (.int .i64 a2_0) := (blk_cell BK235.out 0).trans rfl; have hcz77_1 : w76.cell? ⟨gb235, 1, none⟩ = some (.int .i64 a2_1) := (blk_cell BK235.out 1).trans rfl; have hfz77_0 := blk_frozen BK235.out 0; have hfz77_1 := blk_frozen BK235.out 1; have hcz78_0 : w76.cell? ⟨gb236, 0, none⟩ = some (.int .i64 a3_0) := (blk_cell BK236.out 0).trans rfl; have hcz78_1 : w76.cell? ⟨gb236, 1, none⟩ = some (.int .i64 a3_1) := (blk_cell BK236.out 1).trans rfl; have hfz78_0 := blk_frozen BK236.out 0; have hfz78_1 := blk_frozen BK236.out 1; have hcz79_0 : w76.cell? ⟨gb234, 0, none⟩ = some (.int .i64 a1_0) := (blk_cell BK234.out 0).trans rfl; have hcz79_1 : w76.cell? ⟨gb234, 1, none⟩ = some (.int .i64 a1_1) := (blk_cell BK234.out 1).trans rfl; have hfz79_0 := blk_frozen BK234.out 0; have hfz79_1 := blk_frozen BK234.out 1) | (go_at_call 25; (with_reducible refine (impl_PointOn.calls k a2_0 a2_1 a3_0 a3_1 a1_0 a1_1 t240 _ A58.out).mono ?_); rintro e w80 ⟨rfl, hb⟩; have n0_ := Aside0.mk (blk_below (bf BK233.out) hb); have n1_ := Aside0.mk (blk_below (bf BK234.out) hb); have n2_ := Aside0.mk (blk_below (bf BK235.out) hb); have n3_ := Aside0.mk (blk_below (bf BK236.out) hb); have n4_ := Aside0.mk (below_step (lb HB.out) hb); clear BK233; clear BK234; clear BK235; clear BK236; clear HB; have BK233 := n0_; have BK234 := n1_; have BK235 := n2_; have BK236 := n3_; have HB := n4_; clear n0_ n1_ n2_ n3_ n4_; (try clear hb); (try clear hb2); (try clear hk); (try clear hi)))
     go_meet
     case rel => exact ⟨_, (t240), (by first | rfl | (simp; done) | (simp [*]; done)), H', ⟨by first | omega | exact Nat.le_refl _⟩, ⟨bu BK233.out⟩, ⟨bu BK234.out⟩, ⟨bu BK235.out⟩, ⟨bu BK236.out⟩, ⟨lb HB.out⟩⟩
 case rest =>
  clear HC5
  try clear c1
  try clear c2
  try clear p2
  try clear c3
  try clear c4
  try clear c5
  try clear c6
  try clear c9
  try clear c11
  try clear c12
  try clear c13
  try clear c14
  try clear c16
  try clear c17
  try clear c19
  try clear c23
  try clear c24
  try clear c25
  try clear c26
  try clear c28
  try clear c29
  try clear c31
  try clear c39
  try clear c40
  try clear c41
  try clear c42
  try clear c44
  try clear c45
  try clear c47
  try clear c59
  try clear c60
  try clear c61
  try clear c63
  try clear c64
  try clear c66
  try clear hcz15_0
  try clear hcz15_1
  try clear hcz18_0
  try clear hcz18_1
  try clear hcz20_0
  try clear hcz20_1
  try clear hcz27_0
  try clear hcz27_1
  try clear hcz30_0
  try clear hcz30_1
  try clear hcz32_0
  try clear hcz32_1
  try clear hcz34_0
  try clear hcz34_1
  try clear hcz35_0
  try clear hcz35_1
  try clear hcz36_0
  try clear hcz36_1
  try clear hcz43_0
  try clear hcz43_1
  try clear hcz46_0
  try clear hcz46_1
  try clear hcz48_0
  try clear hcz48_1
  try clear hcz50_0
  try clear hcz50_1
  try clear hcz51_0
  try clear hcz51_1
  try clear hcz52_0
  try clear hcz52_1
  try clear hcz54_0
  try clear hcz54_1
  try clear hcz55_0
  try clear hcz55_1
  try clear hcz56_0
  try clear hcz56_1
  try clear hcz62_0
  try clear hcz62_1
  try clear hcz65_0
  try clear hcz65_1
  try clear hcz67_0
  try clear hcz67_1
  try clear hcz69_0
  try clear hcz69_1
  try clear hcz70_0
  try clear hcz70_1
  try clear hcz71_0
  try clear hcz71_1
  try clear hcz73_0
  try clear hcz73_1
  try clear hcz74_0
  try clear hcz74_1
  try clear hcz75_0
  try clear hcz75_1
  try clear hcz77_0
  try clear hcz77_1
  try clear hcz78_0
  try clear hcz78_1
  try clear hcz79_0
  try clear hcz79_1
  try clear hfz15_0
  try clear hfz15_1
  try clear hfz18_0
  try clear hfz18_1
  try clear hfz20_0
  try clear hfz20_1
  try clear hfz27_0
  try clear hfz27_1
  try clear hfz30_0
  try clear hfz30_1
  try clear hfz32_0
  try clear hfz32_1
  try clear hfz34_0
  try clear hfz34_1
  try clear hfz35_0
  try clear hfz35_1
  try clear hfz36_0
  try clear hfz36_1
  try clear hfz43_0
  try clear hfz43_1
  try clear hfz46_0
  try clear hfz46_1
  try clear hfz48_0
  try clear hfz48_1
  try clear hfz50_0
  try clear hfz50_1
  try clear hfz51_0
  try clear hfz51_1
  try clear hfz52_0
  try clear hfz52_1
  try clear hfz54_0
  try clear hfz54_1
  try clear hfz55_0
  try clear hfz55_1
  try clear hfz56_0
  try clear hfz56_1
  try clear hfz62_0
  try clear hfz62_1
  try clear hfz65_0
  try clear hfz65_1
  try clear hfz67_0
  try clear hfz67_1
  try clear hfz69_0
  try clear hfz69_1
  try clear hfz70_0
  try clear hfz70_1
  try clear hfz71_0
  try clear hfz71_1
  try clear hfz73_0
  try clear hfz73_1
  try clear hfz74_0
  try clear hfz74_1
  try clear hfz75_0
  try clear hfz75_1
  try clear hfz77_0
  try clear hfz77_1
  try clear hfz78_0
  try clear hfz78_1
  try clear hfz79_0
  try clear hfz79_1
  obtain ⟨kq, x38_4, rfl, HA, HJ4, BK233, BK234, BK235, BK236, HB⟩ := hcut
  cases kq with
  | zero => exact absurd HA.out (by simp [impl_sidesMeet.j0])
  | succ kj4 =>
   have H := HA.out
   clear HA
   simp only [impl_sidesMeet.j0] at H
   by_cases c81 : x38_4 = true
   ·subst c81
    have H1 : (some true) = some r := by rw [if_pos rfl] at H; exact H
    clear H
    have H := H1
    clear H1
    obtain rfl := Option.some.inj H
    go_wp2
    go_ret
    exact ⟨er, lb HB.out⟩
   ·replace c81 := Bool.eq_false_iff.mpr c81
    subst c81
    have H1 : ((impl_PointSide.f a0_0 a0_1 a1_0 a1_1 a2_0 a2_1).bind fun bt241 => ((impl_PointSide.f a0_0 a0_1 a1_0 a1_1 a3_0 a3_1).bind fun bt243 => ((impl_PointSide.f a2_0 a2_1 a3_0 a3_1 a0_0 a0_1).bind fun bt245 => ((impl_PointSide.f a2_0 a2_1 a3_0 a3_1 a1_0 a1_1).bind fun bt247 => (if (wrap64 (bt241.1 * bt243.1)) < 0 then (some (decide ((wrap64 (bt245.1 * bt247.1)) < 0))) else (some false)))))) = some r := by rw [if_neg (show ¬ (false = true) by decide)] at H; exact H
    clear H
    have H := H1
    clear H1
    replace H := Option.bind_eq_some_iff.mp H
    obtain ⟨⟨t241, t242⟩, A820, H⟩ := H
    replace H : ((impl_PointSide.f a0_0 a0_1 a1_0 a1_1 a3_0 a3_1).bind fun bt243 => ((impl_PointSide.f a2_0 a2_1 a3_0 a3_1 a0_0 a0_1).bind fun bt245 => ((impl_PointSide.f a2_0 a2_1 a3_0 a3_1 a1_0 a1_1).bind fun bt247 => (if (wrap64 (t241 * bt243.1)) < 0 then (some (decide ((wrap64 (bt245.1 * bt247.1)) < 0))) else (some false))))) = some r := H
    have A82 := Aside0.mk A820
    clear A820
    replace H := Option.bind_eq_some_iff.mp H
    obtain ⟨⟨t243, t244⟩, A830, H⟩ := H
    replace H : ((impl_PointSide.f a2_0 a2_1 a3_0 a3_1 a0_0 a0_1).bind fun bt245 => ((impl_PointSide.f a2_0 a2_1 a3_0 a3_1 a1_0 a1_1).bind fun bt247 => (if (wrap64 (t241 * t243)) < 0 then (some (decide ((wrap64 (bt245.1 * bt247.1)) < 0))) else (some false)))) = some r := H
    have A83 := Aside0.mk A830
    clear A830
    replace H := Option.bind_eq_some_iff.mp H
    obtain ⟨⟨t245, t246⟩, A840, H⟩ := H
    replace H : ((impl_PointSide.f a2_0 a2_1 a3_0 a3_1 a1_0 a1_1).bind fun bt247 => (if (wrap64 (t241 * t243)) < 0 then (some (decide ((wrap64 (t245 * bt247.1)) < 0))) else (some false))) = some r := H
    have A84 := Aside0.mk A840
    clear A840
    replace H := Option.bind_eq_some_iff.mp H
    obtain ⟨⟨t247, t248⟩, A850, H⟩ := H
    replace H : (if (wrap64 (t241 * t243)) < 0 then (some (decide ((wrap64 (t245 * t247)) < 0))) else (some false)) = some r := H
    have A85 := Aside0.mk A850
    clear A850
    by_cases c86 : (wrap64 (t241 * t243)) < 0
    ·rw [if_pos c86] at H
     have c86b0 : decide ((wrap64 (t241 * t243)) < 0) = true := decide_eq_true c86
     clear c86
     obtain rfl := Option.some.inj H
     have hnb87 := NB233_234.out
     have hnc87 := NB234_233.out
     have hnb88 := NB233_235.out
     have hnc88 := NB235_233.out
     have hnb89 := NB233_236.out
     have hnc89 := NB236_233.out
     have hcz90_0 : wc.cell? ⟨gb233, 0, none⟩ = some (.int .i64 a0_0) := (blk_cell BK233.out 0).trans rfl
     have hcz90_1 : wc.cell? ⟨gb233, 1, none⟩ = some (.int .i64 a0_1) := (blk_cell BK233.out 1).trans rfl
     have hfz90_0 := blk_frozen BK233.out 0
     have hfz90_1 := blk_frozen BK233.out 1
     have hnb91 := NB234_235.out
     have hnc91 := NB235_234.out
     have hnb92 := NB234_236.out
     have hnc92 := NB236_234.out
     have hcz93_0 : wc.cell? ⟨gb234, 0, none⟩ = some (.int .i64 a1_0) := (blk_cell BK234.out 0).trans rfl
     have hcz93_1 : wc.cell? ⟨gb234, 1, none⟩ = some (.int .i64 a1_1) := (blk_cell BK234.out 1).trans rfl
     have hfz93_0 := blk_frozen BK234.out 0
     have hfz93_1 := blk_frozen BK234.out 1
     have hnb94 := NB235_236.out
     have hnc94 := NB236_235.out
     have hcz95_0 : wc.cell? ⟨gb235, 0, none⟩ = some (.int .i64 a2_0) := (blk_cell BK235.out 0).trans rfl
     have hcz95_1 : wc.cell? ⟨gb235, 1, none⟩ = some (.int .i64 a2_1) := (blk_cell BK235.out 1).trans rfl
     have hfz95_0 := blk_frozen BK235.out 0
     have hfz95_1 := blk_frozen BK235.out 1
     go_wp2_with (first | ((with_reducible refine gate_callee (f := 54) rfl ?_); refine goesL_ (some 43) rfl rfl Try.func54 (by kernel_rfl) rfl #[.agg #[.int .i64 a0_0, .int .i64 a0_1], .agg #[.int .i64 a1_0, .int .i64 a1_1], .agg #[.int .i64 a2_0, .int .i64 a2_1]] rfl al ?_; (with_reducible refine (impl_PointSide.calls a0_0 a0_1 a1_0 a1_1 a2_0 a2_1 t241 t242 _ A82.out).mono ?_); rintro e w96 ⟨rfl, hb⟩; refine ⟨_, rfl, ?_⟩; have n0_ := Aside0.mk (blk_below (bf BK233.out) hb); have n1_ := Aside0.mk (blk_below (bf BK234.out) hb); have n2_ := Aside0.mk (blk_below (bf BK235.out) hb); have n3_ := Aside0.mk (blk_below (bf BK236.out) hb); have n4_ := Aside0.mk (below_step (lb HB.out) hb); clear BK233; clear BK234; clear BK235; clear BK236; clear HB; have BK233 := n0_; have BK234 := n1_; have BK235 := n2_; have BK236 := n3_; have HB := n4_; clear n0_ n1_ n2_ n3_ n4_; (try clear hb); (try clear hb2); (try clear hk); (try clear hi); have hcz97_0 : w96.cell? ⟨gb233, 0, none⟩ = some (.int .i64 a0_0) := (blk_cell BK233.out 0).trans rfl; have hcz97_1 : w96.cell? ⟨gb233, 1, none⟩ = some (.int .i64 a0_1) := (blk_cell BK233.out 1).trans rfl; have hfz97_0 := blk_frozen BK233.out 0; have hfz97_1 := blk_frozen BK233.out 1; have hcz98_0 : w96.cell? ⟨gb234, 0, none⟩ = some (.int .i64 a1_0) := (blk_cell BK234.out 0).trans rfl; have hcz98_1 : w96.cell? ⟨gb234, 1, none⟩ = some (.int .i64 a1_1) := (blk_cell BK234.out 1).trans rfl; have hfz98_0 := blk_frozen BK234.out 0; have hfz98_1 := blk_frozen BK234.out 1; have hcz99_0 : w96.cell? ⟨gb236, 0, none⟩ = some (.int .i64 a3_0) := (blk_cell BK236.out 0).trans rfl; have hcz99_1 : w96.cell? ⟨gb236, 1, none⟩ = some (.int .i64 a3_1) := (blk_cell BK236.out 1).trans rfl; have hfz99_0 := blk_frozen BK236.out 0; have hfz99_1 := blk_frozen BK236.out 1) | ((with_reducible refine gate_callee (f := 54) rfl ?_); refine goesL_ (some 50) rfl rfl Try.func54 (by kernel_rfl) rfl #[.agg #[.int .i64 a0_0, .int .i64 a0_1], .agg #[.int .i64 a1_0, .int .i64 a1_1], .agg #[.int .i64 a3_0, .int .i64 a3_1]] rfl al ?_; (with_reducible refine (impl_PointSide.calls a0_0 a0_1 a1_0 a1_1 a3_0 a3_1 t243 t244 _ A83.out).mono ?_); rintro e w100 ⟨rfl, hb⟩; refine ⟨_, rfl, ?_⟩; have n0_ := Aside0.mk (blk_below (bf BK233.out) hb); have n1_ := Aside0.mk (blk_below (bf BK234.out) hb); have n2_ := Aside0.mk (blk_below (bf BK235.out) hb); have n3_ := Aside0.mk (blk_below (bf BK236.out) hb); have n4_ := Aside0.mk (below_step (lb HB.out) hb); clear BK233; clear BK234; clear BK235; clear BK236; clear HB; have BK233 := n0_; have BK234 := n1_; have BK235 := n2_; have BK236 := n3_; have HB := n4_; clear n0_ n1_ n2_ n3_ n4_; (try clear hb); (try clear hb2); (try clear hk); (try clear hi); have hcz101_0 : w100.cell? ⟨gb235, 0, none⟩ = some (.int .i64 a2_0) := (blk_cell BK235.out 0).trans rfl; have hcz101_1 : w100.cell? ⟨gb235, 1, none⟩ = some (.int .i64 a2_1) := (blk_cell BK235.out 1).trans rfl; have hfz101_0 := blk_frozen BK235.out 0; have hfz101_1 := blk_frozen BK235.out 1; have hcz102_0 : w100.cell? ⟨gb236, 0, none⟩ = some (.int .i64 a3_0) := (blk_cell BK236.out 0).trans rfl; have hcz102_1 : w100.cell? ⟨gb236, 1, none⟩ = some (.int .i64 a3_1) := (blk_cell BK236.out 1).trans rfl; have hfz102_0 := blk_frozen BK236.out 0; have hfz102_1 := blk_frozen BK236.out 1; have hcz103_0 : w100.cell? ⟨gb233, 0, none⟩ = some (.int .i64 a0_0) := (blk_cell BK233.out 0).trans rfl; have hcz103_1 : w100.cell? ⟨gb233, 1, none⟩ = some (.int .i64 a0_1) := (blk_cell BK233.out 1).trans rfl; have hfz103_0 := blk_frozen BK233.out 0; have hfz103_1 := blk_frozen BK233.out 1) | ((with_reducible refine gate_callee (f := 54) rfl ?_); refine goesL_ (some 57) rfl rfl Try.func54 (by kernel_rfl) rfl #[.agg #[.int .i64 a2_0, .int .i64 a2_1], .agg #[.int .i64 a3_0, .int .i64 a3_1], .agg #[.int .i64 a0_0, .int .i64 a0_1]] rfl al ?_; (with_reducible refine (impl_PointSide.calls a2_0 a2_1 a3_0 a3_1 a0_0 a0_1 t245 t246 _ A84.out).mono ?_); rintro e w104 ⟨rfl, hb⟩; refine ⟨_, rfl, ?_⟩; have n0_ := Aside0.mk (blk_below (bf BK233.out) hb); have n1_ := Aside0.mk (blk_below (bf BK234.out) hb); have n2_ := Aside0.mk (blk_below (bf BK235.out) hb); have n3_ := Aside0.mk (blk_below (bf BK236.out) hb); have n4_ := Aside0.mk (below_step (lb HB.out) hb); clear BK233; clear BK234; clear BK235; clear BK236; clear HB; have BK233 := n0_; have BK234 := n1_; have BK235 := n2_; have BK236 := n3_; have HB := n4_; clear n0_ n1_ n2_ n3_ n4_; (try clear hb); (try clear hb2); (try clear hk); (try clear hi); have hcz105_0 : w104.cell? ⟨gb235, 0, none⟩ = some (.int .i64 a2_0) := (blk_cell BK235.out 0).trans rfl; have hcz105_1 : w104.cell? ⟨gb235, 1, none⟩ = some (.int .i64 a2_1) := (blk_cell BK235.out 1).trans rfl; have hfz105_0 := blk_frozen BK235.out 0; have hfz105_1 := blk_frozen BK235.out 1; have hcz106_0 : w104.cell? ⟨gb236, 0, none⟩ = some (.int .i64 a3_0) := (blk_cell BK236.out 0).trans rfl; have hcz106_1 : w104.cell? ⟨gb236, 1, none⟩ = some (.int .i64 a3_1) := (blk_cell BK236.out 1).trans rfl; have hfz106_0 := blk_frozen BK236.out 0; have hfz106_1 := blk_frozen BK236.out 1; have hcz107_0 : w104.cell? ⟨gb234, 0, none⟩ = some (.int .i64 a1_0) := (blk_cell BK234.out 0).trans rfl; have hcz107_1 : w104.cell? ⟨gb234, 1, none⟩ = some (.int .i64 a1_1) := (blk_cell BK234.out 1).trans rfl; have hfz107_0 := blk_frozen BK234.out 0; have hfz107_1 := blk_frozen BK234.out 1) | ((with_reducible refine gate_callee (f := 54) rfl ?_); refine goesL_ (some 64) rfl rfl Try.func54 (by kernel_rfl) rfl #[.agg #[.int .i64 a2_0, .int .i64 a2_1], .agg #[.int .i64 a3_0, .int .i64 a3_1], .agg #[.int .i64 a1_0, .int .i64 a1_1]] rfl al ?_; (with_reducible refine (impl_PointSide.calls a2_0 a2_1 a3_0 a3_1 a1_0 a1_1 t247 t248 _ A85.out).mono ?_); rintro e w108 ⟨rfl, hb⟩; refine ⟨_, rfl, ?_⟩; have n0_ := Aside0.mk (blk_below (bf BK233.out) hb); have n1_ := Aside0.mk (blk_below (bf BK234.out) hb); have n2_ := Aside0.mk (blk_below (bf BK235.out) hb); have n3_ := Aside0.mk (blk_below (bf BK236.out) hb); have n4_ := Aside0.mk (below_step (lb HB.out) hb); clear BK233; clear BK234; clear BK235; clear BK236; clear HB; have BK233 := n0_; have BK234 := n1_; have BK235 := n2_; have BK236 := n3_; have HB := n4_; clear n0_ n1_ n2_ n3_ n4_; (try clear hb); (try clear hb2); (try clear hk); (try clear hi)))
     go_ret
     exact ⟨er, lb HB.out⟩
    ·rw [if_neg c86] at H
     have c86b0 : decide ((wrap64 (t241 * t243)) < 0) = false := decide_eq_false c86
     clear c86
     obtain rfl := Option.some.inj H
     have hnb109 := NB233_234.out
     have hnc109 := NB234_233.out
     have hnb110 := NB233_235.out
     have hnc110 := NB235_233.out
     have hnb111 := NB233_236.out
     have hnc111 := NB236_233.out
     have hcz112_0 : wc.cell? ⟨gb233, 0, none⟩ = some (.int .i64 a0_0) := (blk_cell BK233.out 0).trans rfl
     have hcz112_1 : wc.cell? ⟨gb233, 1, none⟩ = some (.int .i64 a0_1) := (blk_cell BK233.out 1).trans rfl
     have hfz112_0 := blk_frozen BK233.out 0
     have hfz112_1 := blk_frozen BK233.out 1
     have hnb113 := NB234_235.out
     have hnc113 := NB235_234.out
     have hnb114 := NB234_236.out
     have hnc114 := NB236_234.out
     have hcz115_0 : wc.cell? ⟨gb234, 0, none⟩ = some (.int .i64 a1_0) := (blk_cell BK234.out 0).trans rfl
     have hcz115_1 : wc.cell? ⟨gb234, 1, none⟩ = some (.int .i64 a1_1) := (blk_cell BK234.out 1).trans rfl
     have hfz115_0 := blk_frozen BK234.out 0
     have hfz115_1 := blk_frozen BK234.out 1
     have hnb116 := NB235_236.out
     have hnc116 := NB236_235.out
     have hcz117_0 : wc.cell? ⟨gb235, 0, none⟩ = some (.int .i64 a2_0) := (blk_cell BK235.out 0).trans rfl
     have hcz117_1 : wc.cell? ⟨gb235, 1, none⟩ = some (.int .i64 a2_1) := (blk_cell BK235.out 1).trans rfl
     have hfz117_0 := blk_frozen BK235.out 0
     have hfz117_1 := blk_frozen BK235.out 1
     go_wp2_with (first | ((with_reducible refine gate_callee (f := 54) rfl ?_); refine goesL_ (some 43) rfl rfl Try.func54 (by kernel_rfl) rfl #[.agg #[.int .i64 a0_0, .int .i64 a0_1], .agg #[.int .i64 a1_0, .int .i64 a1_1], .agg #[.int .i64 a2_0, .int .i64 a2_1]] rfl al ?_; (with_reducible refine (impl_PointSide.calls a0_0 a0_1 a1_0 a1_1 a2_0 a2_1 t241 t242 _ A82.out).mono ?_); rintro e w118 ⟨rfl, hb⟩; refine ⟨_, rfl, ?_⟩; have n0_ := Aside0.mk (blk_below (bf BK233.out) hb); have n1_ := Aside0.mk (blk_below (bf BK234.out) hb); have n2_ := Aside0.mk (blk_below (bf BK235.out) hb); have n3_ := Aside0.mk (blk_below (bf BK236.out) hb); have n4_ := Aside0.mk (below_step (lb HB.out) hb); clear BK233; clear BK234; clear BK235; clear BK236; clear HB; have BK233 := n0_; have BK234 := n1_; have BK235 := n2_; have BK236 := n3_; have HB := n4_; clear n0_ n1_ n2_ n3_ n4_; (try clear hb); (try clear hb2); (try clear hk); (try clear hi); have hcz119_0 : w118.cell? ⟨gb233, 0, none⟩ = some (.int .i64 a0_0) := (blk_cell BK233.out 0).trans rfl; have hcz119_1 : w118.cell? ⟨gb233, 1, none⟩ = some (.int .i64 a0_1) := (blk_cell BK233.out 1).trans rfl; have hfz119_0 := blk_frozen BK233.out 0; have hfz119_1 := blk_frozen BK233.out 1; have hcz120_0 : w118.cell? ⟨gb234, 0, none⟩ = some (.int .i64 a1_0) := (blk_cell BK234.out 0).trans rfl; have hcz120_1 : w118.cell? ⟨gb234, 1, none⟩ = some (.int .i64 a1_1) := (blk_cell BK234.out 1).trans rfl; have hfz120_0 := blk_frozen BK234.out 0; have hfz120_1 := blk_frozen BK234.out 1; have hcz121_0 : w118.cell? ⟨gb236, 0, none⟩ = some (.int .i64 a3_0) := (blk_cell BK236.out 0).trans rfl; have hcz121_1 : w118.cell? ⟨gb236, 1, none⟩ = some (.int .i64 a3_1) := (blk_cell BK236.out 1).trans rfl; have hfz121_0 := blk_frozen BK236.out 0; have hfz121_1 := blk_frozen BK236.out 1) | ((with_reducible refine gate_callee (f := 54) rfl ?_); refine goesL_ (some 50) rfl rfl Try.func54 (by kernel_rfl) rfl #[.agg #[.int .i64 a0_0, .int .i64 a0_1], .agg #[.int .i64 a1_0, .int .i64 a1_1], .agg #[.int .i64 a3_0, .int .i64 a3_1]] rfl al ?_; (with_reducible refine (impl_PointSide.calls a0_0 a0_1 a1_0 a1_1 a3_0 a3_1 t243 t244 _ A83.out).mono ?_); rintro e w122 ⟨rfl, hb⟩; refine ⟨_, rfl, ?_⟩; have n0_ := Aside0.mk (blk_below (bf BK233.out) hb); have n1_ := Aside0.mk (blk_below (bf BK234.out) hb); have n2_ := Aside0.mk (blk_below (bf BK235.out) hb); have n3_ := Aside0.mk (blk_below (bf BK236.out) hb); have n4_ := Aside0.mk (below_step (lb HB.out) hb); clear BK233; clear BK234; clear BK235; clear BK236; clear HB; have BK233 := n0_; have BK234 := n1_; have BK235 := n2_; have BK236 := n3_; have HB := n4_; clear n0_ n1_ n2_ n3_ n4_; (try clear hb); (try clear hb2); (try clear hk); (try clear hi); have hcz123_0 : w122.cell? ⟨gb235, 0, none⟩ = some (.int .i64 a2_0) := (blk_cell BK235.out 0).trans rfl; have hcz123_1 : w122.cell? ⟨gb235, 1, none⟩ = some (.int .i64 a2_1) := (blk_cell BK235.out 1).trans rfl; have hfz123_0 := blk_frozen BK235.out 0; have hfz123_1 := blk_frozen BK235.out 1; have hcz124_0 : w122.cell? ⟨gb236, 0, none⟩ = some (.int .i64 a3_0) := (blk_cell BK236.out 0).trans rfl; have hcz124_1 : w122.cell? ⟨gb236, 1, none⟩ = some (.int .i64 a3_1) := (blk_cell BK236.out 1).trans rfl; have hfz124_0 := blk_frozen BK236.out 0; have hfz124_1 := blk_frozen BK236.out 1; have hcz125_0 : w122.cell? ⟨gb233, 0, none⟩ = some (.int .i64 a0_0) := (blk_cell BK233.out 0).trans rfl; have hcz125_1 : w122.cell? ⟨gb233, 1, none⟩ = some (.int .i64 a0_1) := (blk_cell BK233.out 1).trans rfl; have hfz125_0 := blk_frozen BK233.out 0; have hfz125_1 := blk_frozen BK233.out 1) | ((with_reducible refine gate_callee (f := 54) rfl ?_); refine goesL_ (some 57) rfl rfl Try.func54 (by kernel_rfl) rfl #[.agg #[.int .i64 a2_0, .int .i64 a2_1], .agg #[.int .i64 a3_0, .int .i64 a3_1], .agg #[.int .i64 a0_0, .int .i64 a0_1]] rfl al ?_; (with_reducible refine (impl_PointSide.calls a2_0 a2_1 a3_0 a3_1 a0_0 a0_1 t245 t246 _ A84.out).mono ?_); rintro e w126 ⟨rfl, hb⟩; refine ⟨_, rfl, ?_⟩; have n0_ := Aside0.mk (blk_below (bf BK233.out) hb); have n1_ := Aside0.mk (blk_below (bf BK234.out) hb); have n2_ := Aside0.mk (blk_below (bf BK235.out) hb); have n3_ := Aside0.mk (blk_below (bf BK236.out) hb); have n4_ := Aside0.mk (below_step (lb HB.out) hb); clear BK233; clear BK234; clear BK235; clear BK236; clear HB; have BK233 := n0_; have BK234 := n1_; have BK235 := n2_; have BK236 := n3_; have HB := n4_; clear n0_ n1_ n2_ n3_ n4_; (try clear hb); (try clear hb2); (try clear hk); (try clear hi); have hcz127_0 : w126.cell? ⟨gb235, 0, none⟩ = some (.int .i64 a2_0) := (blk_cell BK235.out 0).trans rfl; have hcz127_1 : w126.cell? ⟨gb235, 1, none⟩ = some (.int .i64 a2_1) := (blk_cell BK235.out 1).trans rfl; have hfz127_0 := blk_frozen BK235.out 0; have hfz127_1 := blk_frozen BK235.out 1; have hcz128_0 : w126.cell? ⟨gb236, 0, none⟩ = some (.int .i64 a3_0) := (blk_cell BK236.out 0).trans rfl; have hcz128_1 : w126.cell? ⟨gb236, 1, none⟩ = some (.int .i64 a3_1) := (blk_cell BK236.out 1).trans rfl; have hfz128_0 := blk_frozen BK236.out 0; have hfz128_1 := blk_frozen BK236.out 1; have hcz129_0 : w126.cell? ⟨gb234, 0, none⟩ = some (.int .i64 a1_0) := (blk_cell BK234.out 0).trans rfl; have hcz129_1 : w126.cell? ⟨gb234, 1, none⟩ = some (.int .i64 a1_1) := (blk_cell BK234.out 1).trans rfl; have hfz129_0 := blk_frozen BK234.out 0; have hfz129_1 := blk_frozen BK234.out 1) | ((with_reducible refine gate_callee (f := 54) rfl ?_); refine goesL_ (some 64) rfl rfl Try.func54 (by kernel_rfl) rfl #[.agg #[.int .i64 a2_0, .int .i64 a2_1], .agg #[.int .i64 a3_0, .int .i64 a3_1], .agg #[.int .i64 a1_0, .int .i64 a1_1]] rfl al ?_; (with_reducible refine (impl_PointSide.calls a2_0 a2_1 a3_0 a3_1 a1_0 a1_1 t247 t248 _ A85.out).mono ?_); rintro e w130 ⟨rfl, hb⟩; refine ⟨_, rfl, ?_⟩; have n0_ := Aside0.mk (blk_below (bf BK233.out) hb); have n1_ := Aside0.mk (blk_below (bf BK234.out) hb); have n2_ := Aside0.mk (blk_below (bf BK235.out) hb); have n3_ := Aside0.mk (blk_below (bf BK236.out) hb); have n4_ := Aside0.mk (below_step (lb HB.out) hb); clear BK233; clear BK234; clear BK235; clear BK236; clear HB; have BK233 := n0_; have BK234 := n1_; have BK235 := n2_; have BK236 := n3_; have HB := n4_; clear n0_ n1_ n2_ n3_ n4_; (try clear hb); (try clear hb2); (try clear hk); (try clear hi)))
     go_ret
     exact ⟨er, lb HB.out⟩
end Go.Proofs.Ytfonigbkoligmaa.P
-- squeezed
