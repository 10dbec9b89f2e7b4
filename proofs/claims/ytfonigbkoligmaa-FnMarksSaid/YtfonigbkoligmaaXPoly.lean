import Derived.Test.YtfonigbkoligmaaXHd
import Derived.RangeFuncNested
import Derived.RangeFuncBound
import Derived.Shelf.Abstract
import Derived.WalkKit
import Derived.OwnWalkIn
import Derived.TacticsInMore
import Derived.LoopNIn
import Derived.LoopIn
import Derived.LaidEql
import Derived.Sort.LoopGhostIn
import Derived.RangeFuncWrites
import Derived.RangeFuncCalls
import Derived.RangeFuncLeaves
set_option linter.unusedVariables false
namespace Go.Proofs.YtfonigbkoligmaaW.PrintWords
open Go.RowKit Go.Proofs.YtfonigbkoligmaaW.PrintLast Go.Proofs.YtfonigbkoligmaaW.PrintMore
theorem pl_rows {P : Program} {n : Nat} {row : String} {args : Array Value} {w : World} {R : Value → World → Prop} (h : Rows P row args w R) (l : Nat) : RowsIn (Fence.wide.inRound l) n P row args w R :=
  fun c cs _ => let ⟨v, w', r, s⟩ := h c cs; ⟨v, w', r, stepsIn_wide.2 s⟩
theorem pl_ops {P : Program} {ops : Array Oper} {Q : Exit → Act → World → Prop} (l n : Nat) (hnd : ∀ (i : Nat) (o : Oper), ops[i]? = some o → ∀ c, o.op ≠ .defer c) (hno : ¬ LetsOut Q) :
    ∀ (L : List Nat) (a : Act) (w : World), wpOps P ops Q L a w → wpOpsIn (Fence.wide.inRound l) n P ops Q L a w := by
  intro L
  induction L with
  | nil => intro a w h; exact h
  | cons i rest ih =>
    intro a w h
    unfold wpOps at h
    unfold wpOpsIn
    cases ho : ops[i]? with
    | none => simp only [ho] at h ⊢; exact ih a w h
    | some o =>
      simp only [ho] at h ⊢
      by_cases hw : Region.wanted o (yielded ops a.tmps) = true
      · rw [if_pos hw] at h ⊢
        rcases h with h | ⟨_, h⟩
        · refine ⟨fun _ _ => trivial, ?_⟩
          rw [Oper.semAt_eq _ _ _ (hnd i o ho)]
          unfold Oper.wp at h
          have hd : ((Fence.wide.inRound l).depth.isSome = true → 1 ≤ n) := fun h => by cases h
          generalize (execOp a.eval o).run P w = r at h ⊢
          cases r with
          | ok nx w' =>
            cases nx with
            | value v => exact ih _ _ h
            | skip => exact ih _ _ h
            | defer d => exact ih _ _ h
            | enter f args =>
              refine ⟨hd, CallsIn.inRound l (callsIn_wide.2 (Calls.mono h ?_))⟩
              intro e w'' he
              cases e with
              | returned v => exact ih _ _ he
              | panicked c => exact he
              | outgrown => exact he
            | row r args =>
              refine ⟨hd, RowsIn.mono (pl_rows h l) ?_⟩
              intro v w'' hv
              exact ih _ _ hv
            | _ => exact h.elim
          | halt hh w' => cases hh <;> first | exact h | exact h.elim
        · exact absurd h hno
      · rw [if_neg hw] at h ⊢
        exact ⟨fun _ _ => trivial, ih _ _ h⟩
theorem pl_draw {P : Program} {ops : Array Oper} {Q : Exit → Act → World → Prop} {S : World → Prop} {ds : List Nat} {id l n : Nat} {a : Act} {w : World} (hm : P.follows .mixedOrders = true) (hnd : ∀ (i : Nat) (o : Oper), ops[i]? = some o → ∀ c, o.op ≠ .defer c) (hno : ¬ LetsOut Q)
    (h : wpAnyLast P .any ops Q S ds ops.size (Array.replicate ops.size false) a w.drew) : (Code.region id ops true).wpIn (Fence.wide.inRound l) n P Q a w := by
  refine wpIn_region_draw fun t => ?_
  simp only [Region.schedule, hm, Bool.true_or, if_true]
  exact pl_ops l n hnd hno _ _ _ (wpAny_sound ops.size t _ a _ (wpAny_of_last _ _ _ _ h))
theorem pl_start {P : Program} {ops : Array Oper} {Q : Exit → Act → World → Prop} {S : World → Prop} {ds : List Nat} {id ln m n : Nat} {a : Act} {w : World} (l : Array Bool) (hm : P.follows .mixedOrders = true) (hnd : ∀ (i : Nat) (o : Oper), ops[i]? = some o → ∀ c, o.op ≠ .defer c) (hno : ¬ LetsOut Q)
    (hn : ops.size = m) (hl : Array.replicate m false = l) (hS : S w.drew) (h : S w.drew → wpAnyLast P .any ops Q S ds m l a w.drew) : (Code.region id ops true).wpIn (Fence.wide.inRound ln) n P Q a w := by
  subst hn
  subst hl
  exact pl_draw hm hnd hno (h hS)
def plPost (B n₀ : Nat) (I Ix : Nat → World → Prop) (i : Nat) (W : World) : Exit → Act → World → Prop
  | .normal, _, W' => KeepsFrom B W W' ∧ Below n₀ W W' ∧ I (i + 1) W'
  | .ret, _, W' => KeepsFrom B W W' ∧ Ix i W'
  | _, _, _ => False
theorem plPost_no (B n₀ : Nat) (I Ix : Nat → World → Prop) (i : Nat) (W : World) : ¬ LetsOut (plPost B n₀ I Ix i W) := by
  rintro ⟨a, w, h⟩
  exact h
def Walks (P : Program) (gf : Nat) (rv : Value) (n₀ N : Nat) (en : Nat → Value) (w : World) : Prop :=
  ∀ (n l : Nat) (J Jx : Nat → World → Prop) (W : World), Below w.heap.size w W → (∀ i A o, J i A → J i (A.alloc o)) →
    (∀ i W1, i < N → J i W1 → YieldAt Fence.wide (n - 1) P l #[en i] W1 fun e W' => (e = .returned (.bool true) ∧ J (i + 1) W' ∧ Below n₀ W1 W') ∨ (e = .returned (.bool false) ∧ Jx i W')) →
    J 0 W → CallsIn Fence.wide n P gf #[rv, .func (.yield l) #[] #[]] W fun e W' => (∃ v, e = .returned v) ∧ (J N W' ∨ ∃ i, i < N ∧ Jx i W')
theorem pl_range {P : Program} {g : Operand} {p : Tmp} {assign body : Code} {Q : Exit → Act → World → Prop} {a : Act} {w : World} {gf : Nat} {rv : Value} (hg : a.eval g = .func (.func gf) #[rv] #[]) (eg : ∀ args w, (callFunc gf args).run P w = .ok (.enter gf args) w)
    (n₀ N : Nat) (hn₀ : n₀ ≤ w.heap.size) (en : Nat → Value) (hit : Walks P gf rv n₀ N en w) (I Ix : Nat → World → Prop) (hI : OwnFrom w.heap.size I) (hIx : OwnFrom w.heap.size Ix) (h0 : I 0 w) (a₁ : Nat → Act)
    (hassign : ∀ (l i : Nat) (W : World) (K : Act → World → Prop), K (a₁ i) W → assign.wpIn (Fence.wide.inRound l) 0 P (Exit.then K (fun _ _ _ => False)) { tmps := a.tmps.setIfInBounds p (en i), defers := [] } W)
    (hbody : ∀ (l i : Nat) (W : World), i < N → I i W → body.wpIn (Fence.wide.inRound l) 0 P (plPost w.heap.size n₀ I Ix i W) (a₁ i) W)
    (hdone : ∀ (D : Nat) (W : World), w.heap.size ≤ D → I N W → W.heap[D]? = some (.deferred (some [])) → Q .normal { a with defers := { target := .collected D, args := #[] } :: a.defers } W)
    (hstop : ∀ (D i : Nat) (W : World), w.heap.size ≤ D → i < N → Ix i W → W.heap[D]? = some (.deferred (some [])) → Q .ret { a with defers := { target := .collected D, args := #[] } :: a.defers } W) :
    (Code.rangeFunc g #[p] assign body).wp P Q a w := by
  refine (wpIn_wide (n := 2)).1 ?_
  refine wpIn_rangeFunc ?_
  intro fn _
  generalize hD : w.heap.size = D at *
  let rec_ : LoopState → Option Code → Loop := fun st pe => { state := st, pending := pe, fn := fn, tmps := a.tmps, params := #[p], assign := assign, body := body, defers := D }
  obtain ⟨W1, hW1⟩ : ∃ W1, W1 = (w.alloc (.deferred (some []))).alloc (.loop (rec_ .ready none)) := ⟨_, rfl⟩
  have hs1 : W1.heap.size = D + 2 := by rw [hW1]; simp [hD]
  have hloop : W1.heap[D + 1]? = some (.loop (rec_ .ready none)) := by
    have := World.alloc_heap_new (w.alloc (.deferred (some []))) (.loop (rec_ .ready none))
    rw [World.size_alloc, hD] at this
    rw [hW1]; exact this
  have hdef : W1.heap[D]? = some (.deferred (some [])) := by
    have := World.alloc_heap_new w (.deferred (some []))
    rw [hD] at this
    rw [hW1]; exact (Below.heap_alloc _ _ _ (by rw [World.size_alloc]; omega)).trans this
  have hb1 : Below w.heap.size w W1 := by
    rw [hW1]; exact ((Below.refl _ w).alloc (Nat.le_refl _) _).alloc (by simp) _
  have hI1 : I 0 W1 := by rw [hW1]; exact hI.alloc _ (hI.alloc _ h0)
  refine ⟨D + 1, [{ target := .collected D, args := #[] }], W1, { target := .fn (.func gf) #[], args := #[rv, .func (.yield (D + 1)) #[] #[]] }, W1, gf, #[rv, .func (.yield (D + 1)) #[] #[]], W1, ?_, ?_, fun _ _ => trivial, ?_, fun h => (by cases h), ?_⟩
  · have := run_enterLoop_outer (P := P) (w := w) fn a.tmps #[p] assign body
    rw [hD] at this
    rw [hW1]; exact this
  · simp only [resolve, hg]
    simp [go_sem]
  · simp [invoke, go_sem, eg]
  · refine (hit 1 (D + 1) (fun i W => I i W ∧ W.heap[D + 1]? = some (.loop (rec_ .ready none)) ∧ W.heap[D]? = some (.deferred (some [])))
      (fun i W => Ix i W ∧ W.heap[D + 1]? = some (.loop (rec_ .done (some .ret))) ∧ W.heap[D]? = some (.deferred (some []))) W1 hb1 ?_ ?_ ⟨hI1, hloop, hdef⟩).mono ?_
    · rintro i A o ⟨h1, h2, h3⟩
      exact ⟨hI.alloc _ h1, (Below.heap_alloc _ _ _ (Array.getElem?_eq_some_iff.1 h2).1).trans h2, (Below.heap_alloc _ _ _ (Array.getElem?_eq_some_iff.1 h3).1).trans h3⟩
    · -- one round
      rintro i W hi ⟨h1, h2, h3⟩
      have hlt := (Array.getElem?_eq_some_iff.1 h2).1
      have hy := run_yield (P := P) (args := #[en i]) h2 rfl
      have hz : ((rec_ .ready none).params.zip #[en i]).foldl (fun tmps (t, a) => tmps.setIfInBounds t a) (rec_ .ready none).tmps = a.tmps.setIfInBounds p (en i) := by simp [rec_]
      rw [hz] at hy
      refine ⟨fn, a.tmps.setIfInBounds p (en i), assign, body, hy, roundIn_of_wpIn trivial ?_⟩
      refine hassign _ i W _ ?_
      refine ⟨_, run_beginRound h2 rfl, ?_⟩
      have b2 : (W.putObj (D + 1) (.loop (rec_ .busy none))).heap[D + 1]? = some (.loop (rec_ .busy none)) := World.putObj_heap_same hlt
      have b3 : (W.putObj (D + 1) (.loop (rec_ .busy none))).heap[D]? = some (.deferred (some [])) := (World.putObj_heap_other (by omega)).trans h3
      have bB : Below n₀ W (W.putObj (D + 1) (.loop (rec_ .busy none))) := belowK_b (w := w) (by omega) W (D + 1) _ _ (by omega) h2 rfl rfl
      refine wpIn_mono (hbody (D + 1) i _ hi (hI.putObj _ h1 (by omega) h2 rfl)) ?_
      have fin : ∀ (jump : Option Code) (W3 : World), KeepsFrom D (W.putObj (D + 1) (.loop (rec_ .busy none))) W3 →
          W3.heap[D + 1]? = some (.loop (rec_ .busy none)) ∧ (Instr.endRound (D + 1) jump).run P W3 = .ok (.bool jump.isNone) (W3.putObj (D + 1) (.loop (rec_ (if jump.isNone then .ready else .done) jump))) ∧
          (W3.putObj (D + 1) (.loop (rec_ (if jump.isNone then .ready else .done) jump))).heap[D + 1]? = some (.loop (rec_ (if jump.isNone then .ready else .done) jump)) ∧
          (W3.putObj (D + 1) (.loop (rec_ (if jump.isNone then .ready else .done) jump))).heap[D]? = some (.deferred (some [])) := by
        intro jump W3 hk
        have c2 := hk.same _ _ (by omega) b2 rfl
        have c3 := hk.same _ _ (Nat.le_refl _) b3 rfl
        exact ⟨c2, run_endRound (P := P) jump c2, World.putObj_heap_same (Array.getElem?_eq_some_iff.1 c2).1, (World.putObj_heap_other (by omega)).trans c3⟩
      intro e a3 W3 hp
      cases e with
      | normal =>
        obtain ⟨hk, hkb, hi3⟩ := hp
        obtain ⟨c2, hr, hl, hd⟩ := fin none W3 hk
        exact ⟨_, _, hr, .inl ⟨rfl, ⟨hI.putObj _ hi3 (by omega) c2 rfl, hl, hd⟩, (bB.trans hkb).trans (belowK_b (w := w) (by omega) W3 (D + 1) _ _ (by omega) c2 rfl rfl)⟩⟩
      | ret =>
        obtain ⟨hk, hi3⟩ := hp
        obtain ⟨c2, hr, hl, hd⟩ := fin (some .ret) W3 hk
        exact ⟨_, _, hr, .inr ⟨rfl, hIx.putObj _ hi3 (by omega) c2 rfl, hl, hd⟩⟩
      | _ => exact hp.elim
    · -- behind the iterator
      rintro e W2 ⟨⟨v, rfl⟩, ⟨h1, h2, h3⟩ | ⟨i, hi, h1, h2, h3⟩⟩
      · refine ⟨none, _, run_endLoop (P := P) h2 (by simp [rec_]), ?_⟩
        exact hdone D _ (Nat.le_refl _) (hI.putObj _ h1 (by omega) h2 rfl) ((World.putObj_heap_other (by omega)).trans h3)
      · refine ⟨some .ret, _, run_endLoop (P := P) h2 (by simp [rec_]), ?_⟩
        exact wpIn_ret (hstop D i _ (Nat.le_refl _) hi (hIx.putObj _ h1 (by omega) h2 rfl) ((World.putObj_heap_other (by omega)).trans h3))
theorem pl_no_block {Q : Exit → Act → World → Prop} (id : Nat) (h : ¬ LetsOut Q) : ¬ LetsOut (Exit.inBlock id Q) := by
  rintro ⟨a, w, hq⟩
  exact h ⟨a, w, hq⟩
theorem pl_enter {P : Program} {f : FuncId} {fn : Func} {c : Code} {args : Array Value} {w : World} {R : Ending → World → Prop} (hf : P.funcs[f]? = some fn) (hb : fn.body = some c)
    (h : c.wp P (bodyPostM Fence.wide 2 P fn R) { tmps := args ++ Array.replicate (fn.ntmps - args.size) undef, defers := [] } w) : Calls P f args w R := callsIn_wide.1 (callsIn_of_wp_marks hf hb trivial (wpIn_wide.2 h) rfl)
theorem pl_leave {F : Fence} {n : Nat} {P : Program} {fn : Func} {tmps : Array Value} {R : Ending → World → Prop} {w : World} {D : Nat} {ds : List Deferred} (hK : w.heap[D]? = some (.deferred (some []))) (h : LeavesInM F n P fn tmps R ds .returning (w.putObj D (.deferred none))) :
    LeavesInM F n P fn tmps R ({ target := .collected D, args := #[] } :: ds) .returning w := ⟨by simp, .inl ⟨_, _, rfl, run_takeDeferred hK, h⟩⟩
def noDefer (ops : Array Oper) : Bool := ops.toList.all fun o => match o.op with | .defer _ => false | _ => true
theorem noDefer_all {ops : Array Oper} (h : noDefer ops = true) : ∀ (i : Nat) (o : Oper), ops[i]? = some o → ∀ c, o.op ≠ .defer c := by
  intro i o ho c hc
  have h1 := List.all_eq_true.1 h o (by have := Array.mem_of_getElem? ho; simpa using this)
  rw [hc] at h1
  exact absurd h1 (by simp)
theorem keeps_below {B : Nat} {W W' : World} (h : Below W.heap.size W W') : KeepsFrom B W W' :=
  ⟨h.size, fun k o _ hk _ => (h.block k (Array.getElem?_eq_some_iff.1 hk).1).trans hk⟩
theorem keeps_put {B : Nat} {W W' : World} (h : KeepsFrom B W W') {g : Nat} {cs : Array Value} {t : TypeId} {m : Nat × Nat} (hg : W'.heap[g]? = some (.cells cs t m)) (k : Nat) (v : Value) : KeepsFrom B W (W'.setCell ⟨g, k, none⟩ v) := by
  refine ⟨by simpa [World.setCell] using h.size, fun j o hB hj ho => ?_⟩
  have h1 := h.same j o hB hj ho
  have hne : j ≠ g := fun e => by subst e; rw [hg] at h1; cases h1; cases ho
  exact (Below.heap_setCell _ _ _ _ (show j ≠ g from hne)).trans h1
theorem own_block {B g : Nat} {c : Nat → Obj} (hc : ∀ i, (c i).isCells = true) : OwnFrom B (fun (i : Nat) (W : World) => W.heap[g]? = some (c i)) := by
  intro s W W' row hs hg hr
  refine (hg.block g (blk_lt hs) (fun e => ?_)).trans hs
  obtain ⟨_, o, ho, hco⟩ := hr g e.symm
  rw [hs] at ho; cases ho
  rw [hc s] at hco; cases hco
theorem own_low {B g : Nat} {o : Obj} (h : g < B) : OwnFrom B (fun (_ : Nat) (W : World) => W.heap[g]? = some o) :=
  fun s W W' row hs hg hr => (hg.block g (Array.getElem?_eq_some_iff.1 hs).1 (fun e => by have := (hr g e.symm).1; omega)).trans hs
theorem keeps_mono {B B' : Nat} {W W' : World} (h : KeepsFrom B W W') (hB : B ≤ B') : KeepsFrom B' W W' := ⟨h.size, fun k o hk => h.same k o (Nat.le_trans hB hk)⟩
def Rd (w W W' : World) (B gs : Nat) (o : Obj) : Prop := W'.heap[gs]? = some o ∧ Below w.heap.size w W' ∧ Below w.heap.size W W' ∧ KeepsFrom B W W'
theorem Rd.keep {w W W' W2 : World} {B gs : Nat} {o : Obj} (h : Rd w W W' B gs o) (hb : Below W'.heap.size W' W2) : Rd w W W2 B gs o :=
  ⟨(hb.block _ (blk_lt h.1)).trans h.1, h.2.1.trans (hb.mono h.2.1.size), h.2.2.1.trans (hb.mono h.2.1.size), h.2.2.2.trans (keeps_below hb)⟩
theorem Rd.drew {w W W' : World} {B gs : Nat} {o : Obj} (h : Rd w W W' B gs o) : Rd w W W'.drew B gs o := h.keep (below_drew1 (Below.refl _ _))
theorem Rd.put {w W W' : World} {B gs : Nat} {cs : Array Value} {t : TypeId} {m : Nat × Nat} (h : Rd w W W' B gs (.cells cs t m)) (hlo : w.heap.size ≤ gs) (k : Nat) (v : Value) (hm : m = (0, 0)) : Rd w W (W'.setCell ⟨gs, k, none⟩ v) B gs (.cells (cs.setIfInBounds k v) t (0, 0)) := by
  subst hm
  exact ⟨blk_put h.1 k v rfl, h.2.1.setCell (p := ⟨gs, k, none⟩) hlo v, h.2.2.1.setCell (p := ⟨gs, k, none⟩) hlo v, keeps_put h.2.2.2 h.1 k v⟩
structure Ring (W : World) (n₀ n : Nat) (bs : Nat → Nat) (X Y : Nat → Int) : Prop where
  pos : 0 < n
  low : ∀ i, i < n → bs i < n₀
  cell : ∀ i, i < n → W.heap[bs i]? = some (.cells #[.int .i64 (X i), .int .i64 (Y i), .pointer (some ⟨bs ((i + 1) % n), 0, none⟩)] 75 (0, 0))
  inj : ∀ i j, i < n → j < n → bs i = bs j → i = j
theorem Ring.below {A B : World} {n₀ n : Nat} {bs : Nat → Nat} {X Y : Nat → Int} (h : Ring A n₀ n bs X Y) (hb : Below n₀ A B) : Ring B n₀ n bs X Y :=
  ⟨h.pos, h.low, fun i hi => (hb.block _ (h.low i hi)).trans (h.cell i hi), h.inj⟩
theorem Ring.mono {W : World} {n₀ n₁ n : Nat} {bs : Nat → Nat} {X Y : Nat → Int} (h : Ring W n₀ n bs X Y) (hn : n₀ ≤ n₁) : Ring W n₁ n bs X Y :=
  ⟨h.pos, fun i hi => Nat.lt_of_lt_of_le (h.low i hi) hn, h.cell, h.inj⟩
theorem Ring.next {W W' : World} {n : Nat} {bs : Nat → Nat} {X Y : Nat → Int} (h : Ring W W.heap.size n bs X Y) (hb : Below W.heap.size W W') : Ring W' W'.heap.size n bs X Y := (h.below hb).mono hb.size
theorem Ring.nextAlloc {W : World} {n : Nat} {bs : Nat → Nat} {X Y : Nat → Int} (h : Ring W W.heap.size n bs X Y) (o : Obj) : Ring (W.alloc o) (W.alloc o).heap.size n bs X Y := h.next (below_alloc (Below.refl _ W) o)
theorem Ring.ne {W : World} {n₀ n g : Nat} {bs : Nat → Nat} {X Y : Nat → Int} {cs : Array Value} {t : TypeId} {m : Nat × Nat} (h : Ring W n₀ n bs X Y) (hg : W.heap[g]? = some (.cells cs t m)) (ht : t ≠ 75) : ∀ i, i < n → bs i ≠ g := by
  intro i hi e
  have := h.cell i hi
  rw [e, hg] at this
  injection this with this
  injection this with _ h2 _
  exact ht h2
theorem Ring.farS {W : World} {n g : Nat} {bs : Nat → Nat} {X Y : Nat → Int} (h : Ring W W.heap.size n bs X Y) (hne : ∀ i, i < n → bs i ≠ g) (k : Nat) (v : Value) : Ring (W.setCell ⟨g, k, none⟩ v) (W.setCell ⟨g, k, none⟩ v).heap.size n bs X Y :=
  ⟨h.pos, fun i hi => Nat.lt_of_lt_of_le (h.low i hi) (by simp [World.setCell]), fun i hi => blk_far (p := ⟨g, k, none⟩) (h.cell i hi) (hne i hi) v, h.inj⟩
theorem Ring.far {W : World} {n₀ n : Nat} {bs : Nat → Nat} {X Y : Nat → Int} (h : Ring W n₀ n bs X Y) {g : Nat} (hne : ∀ i, i < n → bs i ≠ g) (k : Nat) (v : Value) : Ring (W.setCell ⟨g, k, none⟩ v) n₀ n bs X Y :=
  ⟨h.pos, h.low, fun i hi => blk_far (p := ⟨g, k, none⟩) (h.cell i hi) (hne i hi) v, h.inj⟩
theorem corner_desc : Try.prog.underlying 56 = some (.pointer 75) := by kernel_rfl
theorem corner_info : (Try.prog.info? 75).map (·.size) = some 3 := by kernel_rfl
theorem ptr_neq (a b : Nat) (w : World) (ca cb : Array Value) (ta tb : TypeId) (ha : w.heap[a]? = some (.cells ca ta (0, 0))) (hb : w.heap[b]? = some (.cells cb tb (0, 0))) : (binOp .neq 56 (.pointer (some ⟨a, 0, none⟩)) (.pointer (some ⟨b, 0, none⟩))).run Try.prog w = .ok (.bool (!decide (a = b))) w := by
  have h1 := corner_desc
  have h2 := corner_info
  unfold binOp Op.equal Op.maxDepth Op.equalIn
  simp [go_sem, h1, underlying]
  by_cases e : a = b
  · subst e
    rw [run_sameAddr_same]
    simp
  · rw [run_sameAddr_other w (a := ⟨a, 0, none⟩) (b := ⟨b, 0, none⟩) (fun h => e (by cases h; rfl)) ha hb]
    simp [e]
section
attribute [local go_sem] Oper.semAt_some
theorem pl_assign {id l n p q : Nat} {ty : TypeId} {pos : String} {P : Program} {a : Act} {W : World} {K : Act → World → Prop} {Q : Exit → Act → World → Prop} (h : K { tmps := a.tmps.setIfInBounds q (a.tmps[p]?.getD undef), defers := a.defers } W) :
    (Code.region id #[{ dst := some q, op := .assign (.tmp p), type := ty, pos := pos, after := #[], guard := none }] false).wpIn (Fence.wide.inRound l) n P (Exit.then K Q) a W := by
  gi_wp2
  exact h
open Go.Shelf
set_option maxRecDepth 100000 in
set_option maxHeartbeats 2000000 in
theorem corners_walks (n₀ n : Nat) (bs : Nat → Nat) (X Y : Nat → Int) (w : World) (hn : n ≤ 1000) (hn₀ : n₀ ≤ w.heap.size) (hR : Ring w n₀ n bs X Y) :
    Walks Try.prog 46 (.agg #[.pointer (some ⟨bs 0, 0, none⟩), .int .i64 (n : Int)]) n₀ n (fun i => .pointer (some ⟨bs i, 0, none⟩)) w := by
  intro m l J Jx W hW hJ hY h0
  refine callsIn_of_wp Try.func46 rfl trivial ?_ rfl
  simp only [Try.ntmps46, List.size_toArray, List.length_cons, List.length_nil, Nat.reduceAdd, Nat.reduceSub, Array.replicate_succ, Array.replicate_zero, List.push_toArray, List.append_toArray, List.nil_append, List.cons_append]
  have hR1 : Ring (W.alloc (.cells #[.pointer (some ⟨bs 0, 0, none⟩), .int .i64 (n : Int)] 58)) n₀ n bs X Y := (hR.below (hW.mono hn₀)).below (below_alloc (Below.refl _ W) _ |>.mono (Nat.le_trans hn₀ hW.size))
  have hJ1 := hJ 0 _ (.cells #[.pointer (some ⟨bs 0, 0, none⟩), .int .i64 (n : Int)] 58) h0
  gi_wp2
  gi_loopw [4, 9] (fun v4 v9 wr => ∃ i : Nat, i ≤ n ∧ v4 = .pointer (some ⟨bs (i % n), 0, none⟩) ∧ v9 = .int .i64 (i : Int) ∧ J i wr ∧ Ring wr n₀ n bs X Y) (fun _ v9 _ => n - (intOf v9).toNat)
  case atStart => exact ⟨0, Nat.zero_le _, by rw [Nat.zero_mod], rfl, hJ1, hR1⟩
  case round =>
    obtain ⟨i, hi, rfl, rfl, hJi, hRi⟩ := hrel
    by_cases hlt : i < n
    · obtain ⟨fn, tmps, assign, body, hy, hRd⟩ := hY i wr hlt hJi
      have e0 : i % n = i := Nat.mod_eq_of_lt hlt
      rw [e0]
      gi_wp2
      refine ⟨fun h => (by cases h), hRd.mono ?_⟩
      rintro e W3 (⟨rfl, hJ3, hk3⟩ | ⟨rfl, hJx3⟩)
      · have hR3 := hRi.below hk3
        have hc3 : W3.cell? ⟨bs i, 2, none⟩ = some (.pointer (some ⟨bs ((i + 1) % n), 0, none⟩)) := (blk_cell (hR3.cell i hlt) 2).trans rfl
        gi_wp2
        go_roundw
        case rel => exact ⟨i + 1, by omega, rfl, by go_num, hJ3, hR3⟩
        case measure => simp [intOf]; omega
      · gi_wp2
        refine bodyPost_ret (results_none rfl _ _ _) rfl ?_
        exact ⟨⟨_, rfl⟩, .inr ⟨i, hlt, hJx3⟩⟩
    · obtain rfl : i = n := by omega
      gi_wp2
      go_end0
      exact ⟨⟨_, rfl⟩, .inl hJi⟩
end
end Go.Proofs.YtfonigbkoligmaaW.PrintWords
