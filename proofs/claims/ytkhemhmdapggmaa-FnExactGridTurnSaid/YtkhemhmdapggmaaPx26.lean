-- Written by a program of this session (wip/xprint.py over the print's own program), not by print.sh. Lean checks it.
import Derived.Test.YtkhemhmdapggmaaPx0
import Derived.Test.YtkhemhmdapggmaaPx1
import Derived.Test.YtkhemhmdapggmaaPx3
import Derived.Test.YtkhemhmdapggmaaPx5
import Derived.Test.YtkhemhmdapggmaaPx23
import Derived.Test.YtkhemhmdapggmaaPx24
import Derived.Test.YtkhemhmdapggmaaPx25
namespace Go.Proofs.Ytkhemhmdapggmaa.P
open Go.RowKit Go.Proofs.YtkhemhmdapggmaaW.PrintWords Go.Proofs.YtkhemhmdapggmaaW.PrintLast Go.Proofs.YtkhemhmdapggmaaW.PrintMore
attribute [local go_sem] max2_int min2_int max_two min_two max_three min_three max_four min_four   -- for this text's walks alone
set_option linter.unusedVariables false
set_option linter.unusedSimpArgs false

-- EXTERNAL laws_FnExactGridTurn: function 8
/-- The marks of a row of rows. -/
def laws_markIntSS.l0 : Nat → List (List Int) → Int → Int → Option (Int × List (List Int))
  | 0, _, _, _ => none
  | k + 1, x0, x1, x5 => if x5 < (x0.length : Int) then (if 0 ≤ x5 then ((laws_markIntS.f k (rd_L1 x0 x5) x1).bind fun bt => (if x5 ≤ 10000000 then laws_markIntSS.l0 k (x0.set (x5 : Int).toNat bt.2) bt.1 (x5 + 1) else none)) else (none)) else (some (x1, x0))
def laws_markIntSS.f (k : Nat) (l0 : List (List Int)) (a1 : Int) : Option (Int × List (List Int)) := laws_markIntSS.l0 k l0 a1 0
theorem laws_markIntSS.mono_l : ∀ (k : Nat) (x0 : List (List Int)) (x1 x5 : Int), LeO (laws_markIntSS.l0 k x0 x1 x5) (laws_markIntSS.l0 (k + 1) x0 x1 x5) := by
  intro k
  induction k with
  | zero => intro x0 x1 x5 r hr; simp [laws_markIntSS.l0] at hr
  | succ k ih =>
    intro x0 x1 x5
    rw [laws_markIntSS.l0, laws_markIntSS.l0]
    exact LeO.ite (LeO.ite (LeO.bind (laws_markIntS.mono _ _ _) (fun _ => LeO.ite (ih _ _ _) (LeO.refl _))) (LeO.refl _)) (LeO.refl _)
theorem laws_markIntSS.mono : ∀ a0 a1 k, LeO (laws_markIntSS.f k a0 a1) (laws_markIntSS.f (k + 1) a0 a1) := fun a0 a1 k => laws_markIntSS.mono_l k a0 a1 0
theorem ss_only {w : World} {base : Nat} {ok ok' : Nat → Prop} {v : Value} {l : List Int} (h : (Kd.int .i64).R 3 w base ok v l) (hok : ∀ k, v.ownBlock = some k → ok' k) : (Kd.int .i64).R 3 w base ok' v l := by
  obtain ⟨_, inner, ho, hr⟩ := h
  exact ⟨hok, inner, ho, hr.imp_ (fun x cs hx => hx)⟩
theorem ss_int {α : Type} {d : Kd α} {e : Nat} {w : World} {base : Nat} {ok : Nat → Prop} {v : Value} {xs : List α} (h : Kd.S d e w base ok v xs) : Kd.S d e w base (fun k => base ≤ k ∧ k < w.heap.size) v xs := Kd.S_mono (Kd.S_bound h) (fun k hk => ⟨hk.2.1, hk.2.2.1⟩)
theorem ss_get (l : List (List Int)) (i : Int) : rd_L1 l i = l.getD i.toNat [] := rfl
/-- A world's first blocks. -/
def ssCut (w : World) (b : Nat) : World := { w with heap := w.heap.extract 0 b }
theorem ssCut_size {w : World} {b : Nat} (h : b ≤ w.heap.size) : (ssCut w b).heap.size = b := by unfold ssCut; simp; omega
theorem ssCut_below {w : World} {b : Nat} (h : b ≤ w.heap.size) : Below (ssCut w b).heap.size (ssCut w b) w := by
  refine ⟨rfl, rfl, rfl, by rw [ssCut_size h]; exact h, fun k hk => ?_⟩
  rw [ssCut_size h] at hk
  unfold ssCut
  show w.heap[k]? = (w.heap.extract 0 b)[k]?
  rw [Array.getElem?_extract, if_pos (by omega), Nat.zero_add]
theorem ssCut_out {W w w' : World} {b c : Nat} (h : c ≤ w.heap.size) (hB : Below b W w) (hb : b ≤ c) (hw : Below c (ssCut w c) w') (hs : w.heap.size ≤ w'.heap.size) : Below b W w' := by
  refine ⟨hw.os.trans hB.os, hw.tape.trans hB.tape, hw.output.trans hB.output, Nat.le_trans hB.size hs, fun k hk => ?_⟩
  have h1 := hw.block k (by omega)
  rw [h1, ← hB.block k hk]
  unfold ssCut
  rw [Array.getElem?_extract, if_pos (by omega), Nat.zero_add]
set_option maxHeartbeats 4000000 in
set_option maxRecDepth 100000 in
theorem markSS_calls (k : Nat) (P0 : Nat → Prop) (v : Value) (l0 : List (List Int)) (a1 r1 : Int) (r2 : List (List Int)) (b : Nat) (w : World) (hb : b ≤ w.heap.size) (hS0 : Kd.S (Kd.slice 3 (Kd.int .i64)) 35 w b P0 v l0) (h : laws_markIntSS.f k l0 a1 = some (r1, r2)) :
    Calls Try.prog 30 #[v, .int .i64 a1] w fun e w' => e = .returned (.int .i64 r1) ∧ Kd.S (Kd.slice 3 (Kd.int .i64)) 35 w' b P0 v r2 ∧ Below b (ssCut w b) w' ∧ Kept w w' P0 := by
  have hB := ssCut_below hb
  rw [← ssCut_size hb] at hS0
  have hS := hS0
  clear hS0
  have hsz := ssCut_size hb
  generalize ssCut w b = w0 at hB hS hsz ⊢
  subst hsz
  obtain ⟨A, c, rfl⟩ := Kd.S_slice hS
  have HB0 := Aside0.mk hB
  have HS0 := Aside0.mk hS
  have H0 := Aside0.mk h
  clear hB hS h
  generalize hn : l0.length = n at HS0 ⊢
  go_enter Try.func30, Try.ntmps30
  go_wp2_with fail
  go_loopg [1, 5] k (fun kq v1 v5 wr => ∃ (x0 : List (List Int)) (x1 x5 : Int), v1 = .int .i64 x1 ∧ v5 = .int .i64 x5 ∧ Aside0 (laws_markIntSS.l0 kq x0 x1 x5 = some (r1, r2)) ∧ Aside0 (kq ≤ k) ∧ Aside0 (Kd.S (Kd.slice 3 (Kd.int .i64)) 35 wr w0.heap.size P0 (.slice A n c) x0) ∧ Aside0 (Below w0.heap.size w0 wr) ∧ Aside0 (Kept w wr P0))
  case atStart => exact ⟨l0, a1, 0, rfl, rfl, H0, ⟨Nat.le_refl _⟩, HS0, HB0, ⟨Kept.refl _ _⟩⟩
  case round =>
    clear HS0 HB0 H0 hn
    obtain ⟨x0, x1, x5, rfl, rfl, HA, HK, HS, HB, HQ⟩ := hrel
    have HL := Aside0.mk (Kd.S_reads' HS.out).1
    cases gk with
    | zero => exact absurd HA.out (by simp [laws_markIntSS.l0])
    | succ k1 =>
      have h := HA.out
      rw [laws_markIntSS.l0] at h
      rw [← HL.out] at h
      by_cases c1 : x5 < (n : Int)
      · rw [if_pos c1] at h
        by_cases c2 : 0 ≤ x5
        · rw [if_pos c2] at h
          obtain ⟨bt, hm, h⟩ := Option.bind_eq_some_iff.1 h
          by_cases c3 : x5 ≤ 10000000
          · rw [if_pos c3] at h
            obtain ⟨b1, b2⟩ := bt
            simp only at h hm
            have HN := Aside0.mk h
            have HM := Aside0.mk hm
            clear h hm HA
            obtain ⟨g, cap, e, _, _, _⟩ := Kd.S_form HS.out (by have := HL.out; omega)
            have eA : A = some ⟨g, 0, none⟩ := by injection e
            subst eA
            clear e
            obtain ⟨oki, cs, hcl, hM, hcc, hoki, hH⟩ := Kd.S_lend HS.out [] x5 c2 c1
            rw [ss_get] at HM
            generalize x0.getD x5.toNat [] = row at HM hM
            obtain ⟨u, rfl, hR⟩ := hM
            have hc0 := hcc 0 u rfl
            have hsz : (Kd.slice 3 (Kd.int .i64)).sz = 1 := rfl
            rw [hsz, Nat.mul_one, Nat.add_zero] at hc0
            obtain ⟨Au, cu, rfl⟩ := Kd.R_slice hR
            have hd1 : decide (x5 < (n : Int)) = true := decide_eq_true c1
            have hd2 : (x5 < (n : Int)) = True := eq_true c1
            have hd3 : ((0 : Int) ≤ x5) = True := eq_true c2
            have hwr : IntKind.i64.wrap (x5 + 1) = x5 + 1 := by rw [IntKind.wrap_i64]; omega
            have P : Calls Try.prog 53 #[.slice Au row.length cu, .int .i64 x1] wr fun e w' => e = .returned (.int .i64 b1) ∧ Kd.S (Kd.slice 3 (Kd.int .i64)) 35 w' w0.heap.size P0 (.slice (some ⟨g, 0, none⟩) n c) (x0.set x5.toNat b2) ∧ Below w0.heap.size w0 w' ∧ Kept w w' P0 := by
              refine (laws_markIntS.calls k1 oki _ _ x1 b1 b2 w0 wr HB.out hR HM.out).mono ?_
              rintro e w' ⟨rfl, hR2, hb, hk⟩
              have hR3 := ss_only (ok' := oki) hR2 (fun k hk => hR.1 k hk)
              have hH2 := Kd.H_step hH (fun k ho hno hlt => hk.2 k hlt hno)
              exact ⟨rfl, Kd.H_back hH2 (okp := oki) ⟨_, rfl, hR3⟩ (fun _ hk => hk), hb, HQ.out.then_ hk (fun k hk => .inl (hoki k hk).1)⟩
            have PP := Aside0.mk P
            clear P hH hR hcc hoki
            go_wp2_with (go_at_call 53; (with_reducible refine PP.out.mono ?_); rintro e w' ⟨rfl, hs, hb, hk⟩; have J1 := Aside0.mk hs; have J2 := Aside0.mk hb; have J3 := Aside0.mk hk; clear hs hb hk)
            go_roundg k1
            case measure => have := HK.out; omega
            case rel => exact ⟨_, b1, x5 + 1, rfl, by first | rfl | rw [hwr], HN, ⟨by have := HK.out; omega⟩, J1, J2, J3⟩
          · rw [if_neg c3] at h; exact absurd h (by simp)
        · rw [if_neg c2] at h; exact absurd h (by simp)
      · rw [if_neg c1] at h
        have hd1 : decide (x5 < (n : Int)) = false := decide_eq_false c1
        simp only [Option.some.injEq, Prod.mk.injEq] at h
        obtain ⟨rfl, rfl⟩ := h
        go_wp2
        go_ret
        exact ⟨rfl, HS.out, HB.out, HQ.out⟩
def laws_FnExactGridTurn.f (k : Nat) (l0 : List (List Int)) : Option Bool :=
  (laws_szIntSS.f k l0 1048576).bind fun s => if s < 0 then some true else
  (laws_toIntSS.f k l0).bind fun t => (spec_GridTurn.f k t).bind fun ws => (impl_GridTurn.f k t).bind fun gs =>
  (laws_eqIntSS.f k gs.1 ws.1).bind fun b1 => if b1 = true ∧ gs.2 = ws.2 then
  ((laws_eqIntSS.f k t t).bind fun b2 => if b2 = true then
  ((laws_markIntSS.f k t 1).bind fun m => if 0 ≤ m.1 then
  ((laws_markIntSS.f k gs.1 1).bind fun n => (laws_heldIntSS.f k n.2 1).bind fun q => if 0 ≤ q ∧ q = n.1 then some true else none) else none) else none) else none
theorem laws_FnExactGridTurn.mono : ∀ a0 k, LeO (laws_FnExactGridTurn.f k a0) (laws_FnExactGridTurn.f (k + 1) a0) := by
  intro a0 k
  unfold laws_FnExactGridTurn.f
  exact LeO.bind (laws_szIntSS.mono _ _ _) (fun _ => LeO.ite (LeO.refl _) (LeO.bind (laws_toIntSS.mono _ _) (fun _ => LeO.bind (spec_GridTurn.mono _ _) (fun _ => LeO.bind (impl_GridTurn.mono _ _) (fun _ => LeO.bind (laws_eqIntSS.mono _ _ _) (fun _ => LeO.ite (LeO.bind (laws_eqIntSS.mono _ _ _) (fun _ => LeO.ite (LeO.bind (laws_markIntSS.mono _ _ _) (fun _ => LeO.ite (LeO.bind (laws_markIntSS.mono _ _ _) (fun _ => LeO.bind (laws_heldIntSS.mono _ _ _) (fun _ => LeO.refl _))) (LeO.refl _))) (LeO.refl _))) (LeO.refl _)))))))
set_option maxHeartbeats 8000000 in
set_option maxRecDepth 100000 in
theorem laws_FnExactGridTurn.calls (k : Nat) (A0 : Option Addr) (c0 : Nat) (l0 : List (List Int)) (r : Bool) (w : World) (hr0 : Kd.C (Kd.slice 3 (Kd.int .i64)) w A0 l0.length l0) (hc0 : l0.length ≤ c0) (h : laws_FnExactGridTurn.f k l0 = some r) :
    Calls Try.prog 8 #[.slice A0 l0.length c0] w fun e w' => e = .returned (.bool r) ∧ Below w.heap.size w w' := by
  have HR := Aside0.mk hr0
  have HC := Aside0.mk hc0
  clear hr0 hc0
  unfold laws_FnExactGridTurn.f at h
  obtain ⟨s, hs, h_⟩ := Option.bind_eq_some_iff.1 h; clear h; have h := h_; clear h_
  have H1 := Aside0.mk hs
  clear hs
  by_cases cs : s < 0
  · rw [if_pos cs] at h
    obtain rfl := Option.some.inj h
    clear h
    have hd : decide (s < 0) = true := decide_eq_true cs
    go_enter Try.func8, Try.ntmps8
    go_wp2_with (go_at_call 15; (with_reducible refine (laws_szIntSS.calls k _ _ l0 1048576 s w HR.out HC.out H1.out).mono ?_); rintro e w1 ⟨rfl, hb⟩; have B1 := Aside0.mk hb.below; clear hb)
    go_ret
    exact ⟨rfl, B1.out⟩
  · rw [if_neg cs] at h
    have hd : decide (s < 0) = false := decide_eq_false cs
    obtain ⟨t, ht, h_⟩ := Option.bind_eq_some_iff.1 h; clear h; have h := h_; clear h_
    obtain ⟨⟨ws1, ws2⟩, hws, h_⟩ := Option.bind_eq_some_iff.1 h; clear h; have h := h_; clear h_
    obtain ⟨⟨gs1, gs2⟩, hgs, h_⟩ := Option.bind_eq_some_iff.1 h; clear h; have h := h_; clear h_
    obtain ⟨b1, hb1, h_⟩ := Option.bind_eq_some_iff.1 h; clear h; have h := h_; clear h_
    dsimp only at hb1 h
    by_cases cb : b1 = true ∧ gs2 = ws2
    · rw [if_pos cb] at h
      obtain ⟨rfl, rfl⟩ := cb
      obtain ⟨b2, hb2, h_⟩ := Option.bind_eq_some_iff.1 h; clear h; have h := h_; clear h_
      by_cases cb2 : b2 = true
      · rw [if_pos cb2] at h
        subst cb2
        obtain ⟨⟨m, t'⟩, hm, h_⟩ := Option.bind_eq_some_iff.1 h; clear h; have h := h_; clear h_
        dsimp only at h
        by_cases cm : 0 ≤ m
        · rw [if_pos cm] at h
          obtain ⟨⟨n, g'⟩, hg, h_⟩ := Option.bind_eq_some_iff.1 h; clear h; have h := h_; clear h_
          obtain ⟨q, hq, h_⟩ := Option.bind_eq_some_iff.1 h; clear h; have h := h_; clear h_
          dsimp only at hq h
          by_cases cq : 0 ≤ q ∧ q = n
          · rw [if_pos cq] at h
            obtain ⟨cq0, rfl⟩ := cq
            obtain rfl := Option.some.inj h
            clear h
            have hdm : decide (m < 0) = false := decide_eq_false (by omega)
            have hdq : decide (q < 0) = false := decide_eq_false (by omega)
            have H2 := Aside0.mk ht
            have H3 := Aside0.mk hws
            have H4 := Aside0.mk hgs
            have H5 := Aside0.mk hb1
            have H6 := Aside0.mk hb2
            have H7 := Aside0.mk hm
            have H8 := Aside0.mk hg
            have H9 := Aside0.mk hq
            clear ht hws hgs hb1 hb2 hm hg hq cs cm cq0
            go_enter Try.func8, Try.ntmps8
            go_wp2_with (go_at_call 15; (with_reducible refine (laws_szIntSS.calls k _ _ l0 1048576 s w HR.out HC.out H1.out).mono ?_); rintro e w1 ⟨rfl, hb⟩; have B1 := Aside0.mk hb.below; clear hb)
            go_wp2_with (go_at_call 17; (with_reducible refine (laws_toIntSS.calls k _ _ l0 t w1 (Kd.C_below HR.out B1.out) HC.out H2.out).mono ?_); rintro e w2 ⟨v2, rfl, hs, hb⟩; obtain ⟨A2, c2, rfl, hc2, hC2⟩ := Kd.S_reads hs; have C2 := Aside0.mk hC2; have L2 := Aside0.mk hc2; have B2 := Aside0.mk (B1.out.trans (hb.mono B1.out.size)); clear hs hb hC2 hc2)
            go_wp2_with (go_at_call 28; (with_reducible refine (spec_GridTurn.calls k _ _ t ws1 gs2 w2 C2.out L2.out H3.out).mono ?_); rintro e w3 ⟨v3, rfl, hs, hb⟩; have S3 := Aside0.mk (ss_int hs); have B3 := Aside0.mk (B2.out.trans (hb.mono B2.out.size)); clear hs hb)
            go_wp2_with (go_at_call 17; (with_reducible refine (laws_toIntSS.calls k _ _ l0 t w3 (Kd.C_below HR.out B3.out) HC.out H2.out).mono ?_); rintro e w4 ⟨v4, rfl, hs, hb⟩; have S4 := Aside0.mk (ss_int hs); have S34 := Aside0.mk (Kd.S_below S3.out hb); have B34 := Aside0.mk hb; have B4 := Aside0.mk (B3.out.trans (hb.mono B3.out.size)); clear hs hb)
            obtain ⟨A4, c4, e4, hc4, hC4⟩ := Kd.S_reads S4.out
            subst e4
            have C4 := Aside0.mk hC4
            have L4 := Aside0.mk hc4
            clear hC4 hc4
            go_wp2_with (go_at_call 29; (with_reducible refine (impl_GridTurn.calls k _ _ t gs1 gs2 w4 C4.out L4.out H4.out).mono ?_); rintro e w5 ⟨v5, rfl, hs, hb⟩; have S5 := Aside0.mk (ss_int hs); have S35 := Aside0.mk (Kd.S_below S34.out hb); have S45 := Aside0.mk (Kd.S_below S4.out hb); have B45 := Aside0.mk hb; have B5 := Aside0.mk (B4.out.trans (hb.mono B4.out.size)); clear hs hb)
            obtain ⟨A5, c5, e5, hc5, _⟩ := Kd.S_reads S5.out
            obtain ⟨A3, c3, e3, hc3, _⟩ := Kd.S_reads S35.out
            subst e5 e3
            have S3_5 := S35
            have S4_5 := S45
            have S5_5 := S5
            have L3 := Aside0.mk hc3
            have L5 := Aside0.mk hc5
            have Z4 := Aside0.mk B34.out.size
            have Z5 := Aside0.mk B45.out.size
            clear S35 S45 S5 S34 S3 hc3 hc5
            go_wp2_with (go_at_call 19; (with_reducible refine (laws_eqIntSS.calls k _ _ gs1 _ _ ws1 true w5 (Kd.S_reads' S5_5.out).2.2 L5.out (Kd.S_reads' S3_5.out).2.2 L3.out H5.out).mono ?_); rintro e w6 ⟨rfl, hd_⟩; have hb := hd_.below; clear hd_; have S3_6 := Aside0.mk (Kd.S_below S3_5.out hb); have S4_6 := Aside0.mk (Kd.S_below S4_5.out hb); have S5_6 := Aside0.mk (Kd.S_below S5_5.out hb); have Z6 := Aside0.mk hb.size; have B6 := Aside0.mk (B5.out.trans (hb.mono B5.out.size)); clear hb)
            go_wp2_with (go_at_call 17; (with_reducible refine (laws_toIntSS.calls k _ _ l0 t w6 (Kd.C_below HR.out B6.out) HC.out H2.out).mono ?_); rintro e w7 ⟨v7, rfl, hs, hb⟩; obtain ⟨A7, c7, rfl, hc7, hC7⟩ := Kd.S_reads hs; have C7 := Aside0.mk hC7; have L7 := Aside0.mk hc7; clear hs hC7 hc7; have S3_7 := Aside0.mk (Kd.S_below S3_6.out hb); have S4_7 := Aside0.mk (Kd.S_below S4_6.out hb); have S5_7 := Aside0.mk (Kd.S_below S5_6.out hb); have Z7 := Aside0.mk hb.size; have B7 := Aside0.mk (B6.out.trans (hb.mono B6.out.size)); clear hb)
            go_wp2_with (go_at_call 19; (with_reducible refine (laws_eqIntSS.calls k _ _ t _ _ t true w7 (Kd.S_reads' S4_7.out).2.2 L4.out C7.out L7.out H6.out).mono ?_); rintro e w8 ⟨rfl, hd_⟩; have hb := hd_.below; clear hd_; have S3_8 := Aside0.mk (Kd.S_below S3_7.out hb); have S4_8 := Aside0.mk (Kd.S_below S4_7.out hb); have S5_8 := Aside0.mk (Kd.S_below S5_7.out hb); have Z8 := Aside0.mk hb.size; have B8 := Aside0.mk (B7.out.trans (hb.mono B7.out.size)); clear hb)
            go_wp2_with (go_at_call 30; (with_reducible refine (markSS_calls k (fun k => w3.heap.size ≤ k ∧ k < w4.heap.size) _ t 1 m t' w3.heap.size w8 (by have z4 := Z4.out; have z5 := Z5.out; have z6 := Z6.out; have z7 := Z7.out; have z8 := Z8.out; omega) S4_8.out H7.out).mono ?_); rintro e w9 ⟨rfl, hs, hw, hk⟩; have Z9 := Aside0.mk hk.1; have B9 := Aside0.mk (ssCut_out (by have z4 := Z4.out; have z5 := Z5.out; have z6 := Z6.out; have z7 := Z7.out; have z8 := Z8.out; omega) B8.out B3.out.size hw hk.1); have S3_9 := Aside0.mk (Kd.S_kept S3_8.out hk (fun k h1 h2 => by omega)); have S5_9 := Aside0.mk (Kd.S_kept S5_8.out hk (fun k h1 h2 => by omega)); clear hs hw hk)
            go_wp2_with (go_at_call 19; (with_reducible refine (laws_eqIntSS.calls k _ _ gs1 _ _ ws1 true w9 (Kd.S_reads' S5_9.out).2.2 L5.out (Kd.S_reads' S3_9.out).2.2 L3.out H5.out).mono ?_); rintro e w10 ⟨rfl, hd_⟩; have hb := hd_.below; clear hd_; have S3_10 := Aside0.mk (Kd.S_below S3_9.out hb); have S5_10 := Aside0.mk (Kd.S_below S5_9.out hb); have Z10 := Aside0.mk hb.size; have B10 := Aside0.mk (B9.out.trans (hb.mono B9.out.size)); clear hb)
            go_wp2_with (go_at_call 30; (with_reducible refine (markSS_calls k (fun k => w4.heap.size ≤ k ∧ k < w5.heap.size) _ gs1 1 _ g' w4.heap.size w10 (by have z4 := Z4.out; have z5 := Z5.out; have z6 := Z6.out; have z7 := Z7.out; have z8 := Z8.out; have z9 := Z9.out; have z10 := Z10.out; omega) S5_10.out H8.out).mono ?_); rintro e w11 ⟨rfl, hs, hw, hk⟩; have Z11 := Aside0.mk hk.1; have B11 := Aside0.mk (ssCut_out (by have z4 := Z4.out; have z5 := Z5.out; have z6 := Z6.out; have z7 := Z7.out; have z8 := Z8.out; have z9 := Z9.out; have z10 := Z10.out; omega) B10.out B4.out.size hw hk.1); have S3_11 := Aside0.mk (Kd.S_kept S3_10.out hk (fun k h1 h2 => by have z4 := Z4.out; omega)); have S5_11 := Aside0.mk hs; clear hs hw hk)
            have eg := (Kd.S_reads' S5_11.out).1
            have L5g : Aside0 (g'.length ≤ c5) := ⟨by rw [← eg]; exact L5.out⟩
            have HELD : Aside0 (∀ W, Kd.S (Kd.slice 3 (Kd.int .i64)) 35 W w4.heap.size (fun k => w4.heap.size ≤ k ∧ k < w5.heap.size) (.slice A5 gs1.length c5) g' → Calls Try.prog 31 #[.slice A5 gs1.length c5, .int .i64 1] W fun e w' => e = .returned (.int .i64 q) ∧ Drawn0 W w') := ⟨by
              intro W hS
              have hC := (Kd.S_reads' hS).2.2
              rw [eg]
              exact laws_heldIntSS.calls k A5 c5 g' 1 q W hC L5g.out H9.out⟩
            clear eg
            go_wp2_with (go_at_call 31; (with_reducible refine (HELD.out w11 S5_11.out).mono ?_); rintro e w12 ⟨rfl, hd_⟩; have hb := hd_.below; clear hd_; have S3_12 := Aside0.mk (Kd.S_below S3_11.out hb); have S5_12 := Aside0.mk (Kd.S_below S5_11.out hb); have Z12 := Aside0.mk hb.size; have B12 := Aside0.mk (B11.out.trans (hb.mono B11.out.size)); clear hb)
            go_wp2_with (go_at_call 17; (with_reducible refine (laws_toIntSS.calls k _ _ l0 t w12 (Kd.C_below HR.out B12.out) HC.out H2.out).mono ?_); rintro e w13 ⟨v13, rfl, hs, hb⟩; obtain ⟨A13, c13, rfl, hc13, hC13⟩ := Kd.S_reads hs; have C13 := Aside0.mk hC13; have L13 := Aside0.mk hc13; clear hs hC13 hc13; have S3_13 := Aside0.mk (Kd.S_below S3_12.out hb); have S5_13 := Aside0.mk (Kd.S_below S5_12.out hb); have Z13 := Aside0.mk hb.size; have B13 := Aside0.mk (B12.out.trans (hb.mono B12.out.size)); clear hb)
            go_wp2_with (go_at_call 29; (with_reducible refine (impl_GridTurn.calls k _ _ t gs1 gs2 w13 C13.out L13.out H4.out).mono ?_); rintro e w14 ⟨v14, rfl, hs, hb⟩; obtain ⟨A14, c14, rfl, hc14, hC14⟩ := Kd.S_reads hs; have C14 := Aside0.mk hC14; have L14 := Aside0.mk hc14; clear hs hC14 hc14; have S3_14 := Aside0.mk (Kd.S_below S3_13.out hb); have S5_14 := Aside0.mk (Kd.S_below S5_13.out hb); have Z14 := Aside0.mk hb.size; have B14 := Aside0.mk (B13.out.trans (hb.mono B13.out.size)); clear hb)
            go_wp2_with (go_at_call 19; (with_reducible refine (laws_eqIntSS.calls k _ _ gs1 _ _ ws1 true w14 C14.out L14.out (Kd.S_reads' S3_14.out).2.2 L3.out H5.out).mono ?_); rintro e w15 ⟨rfl, hd_⟩; have hb := hd_.below; clear hd_; have S3_15 := Aside0.mk (Kd.S_below S3_14.out hb); have S5_15 := Aside0.mk (Kd.S_below S5_14.out hb); have Z15 := Aside0.mk hb.size; have B15 := Aside0.mk (B14.out.trans (hb.mono B14.out.size)); clear hb)
            go_wp2_with (go_at_call 31; (with_reducible refine (HELD.out w15 S5_15.out).mono ?_); rintro e w16 ⟨rfl, hd_⟩; have hb := hd_.below; clear hd_; have Z16 := Aside0.mk hb.size; have B16 := Aside0.mk (B15.out.trans (hb.mono B15.out.size)); clear hb)
            go_ret
            exact ⟨rfl, B16.out⟩
          · rw [if_neg cq] at h; exact absurd h (by simp)
        · rw [if_neg cm] at h; exact absurd h (by simp)
      · rw [if_neg cb2] at h; exact absurd h (by simp)
    · rw [if_neg cb] at h; exact absurd h (by simp)

/-- THE ONE PURE STATEMENT of laws_FnExactGridTurn: yours. -/
def laws_FnExactGridTurn.Pure : Prop := ∀ (l0 : List (List Int)), l0.length ≤ maxLen → (∀ y ∈ l0, y.length ≤ maxLen ∧ ∀ zy ∈ y, (Lit.int .i64 zy).wf = true) → ∃ k, laws_FnExactGridTurn.f k l0 = some true

end Go.Proofs.Ytkhemhmdapggmaa.P
