import Derived.WalkKit
import Derived.Orders
import Derived.KernelRfl
import Derived.Deep.Draws
import Derived.Test.YtphfmcdkldcmiaaProg
import Derived.Test.YtphfmcdkldcmiaaBFnSizes40
import Derived.IntWalk
import Derived.Deep.QuietTactic
import Derived.BigQuiet
import Derived.Laws.BitsLemmas
import Derived.WalkLawsBesides
import Derived.Deep.RegionHeld
import Derived.Deep.RegionHeld3
import Derived.ProofKit
import Derived.Deep.Slices
import Derived.SizedLaws
import Derived.Laws.Cover2
/- A region that draws its order, of whose operations all but the last only read, reckon, call or make memory: what each yields is told once, whatever the order. -/
namespace Go.Proofs.Ytphfmcdkldcmiaa.Rg
open Go Go.RowKit

section
variable {P : Program} {ops : Array Oper} {Q : Exit → Act → World → Prop} {md : Region.Mode}

/-- How many have not come up. -/
def left (listed : Array Bool) : Nat := listed.toList.countP (fun b => !b)
theorem left_set {listed : Array Bool} {i : Nat} (h : listed.getD i true = false) : left listed = left (listed.setIfInBounds i true) + 1 := by
  have hi : i < listed.size := by
    rcases Nat.lt_or_ge i listed.size with h' | h'
    · exact h'
    · simp [Array.getD, Nat.not_lt.2 h'] at h
  have hv : listed[i] = false := by simpa [Array.getD, hi] using h
  unfold left
  rw [Array.toList_setIfInBounds]
  have hl : i < listed.toList.length := by simpa using hi
  have hv' : listed.toList[i] = false := by simpa using hv
  have key : ∀ (l : List Bool) (i : Nat) (hl : i < l.length), l[i] = false → l.countP (fun b => !b) = (l.set i true).countP (fun b => !b) + 1 := by
    intro l
    induction l with
    | nil => intro i hl; simp at hl
    | cons b l ih =>
      intro i hl hv
      cases i with
      | zero =>
        obtain rfl : b = false := by simpa using hv
        simp
      | succ i =>
        have := ih i (by simpa using hl) (by simpa using hv)
        cases b <;> simp [this]
  exact key _ i hl hv'
theorem left_zero {listed : Array Bool} (h : left listed = 0) : Region.ready md ops listed = [] := by
  have hall : ∀ i, listed.getD i true = true := by
    intro i
    cases hb : listed.getD i true with
    | true => rfl
    | false => have := left_set hb; omega
  unfold Region.ready
  rw [List.filter_eq_nil_iff]
  intro i _
  simp [hall]

theorem wpAny_inv {I : Array Bool → Act → World → Prop}
    (step : ∀ listed a w, I listed a w → ∀ i ∈ Region.ready md ops listed, wpOp P ops Q i (I (listed.setIfInBounds i true)) a w)
    (done : ∀ listed a w, I listed a w → Region.ready md ops listed = [] → Q .normal a w) :
    ∀ (fuel : Nat) (listed : Array Bool) (a : Act) (w : World), listed.size = ops.size → left listed ≤ fuel → I listed a w → wpAny P md ops Q fuel listed a w := by
  intro fuel
  induction fuel with
  | zero =>
    intro listed a w hs hl hI
    have hr := left_zero (md := md) (ops := ops) (Nat.le_zero.1 hl)
    exact ⟨hr, done _ _ _ hI hr⟩
  | succ fuel ih =>
    intro listed a w hs hl hI
    refine ⟨fun hr => done _ _ _ hI hr, fun i hi => ?_⟩
    have h1 := (mem_ready.1 hi).1
    have h2 := left_set h1
    exact wpOp_mono (fun a' w' h' => ih _ a' w' (by simpa using hs) (by omega) h') (step _ _ _ hI i hi)

/-- The frame with these slots filled. -/
def fill (a : Act) (ds : List Tmp) (vs : List Value) : Act := { a with tmps := (ds.zip vs).foldl (fun t x => t.setIfInBounds x.1 x.2) a.tmps }
theorem fill_set {a : Act} : ∀ {ds : List Tmp} {vs : List Value} {i : Nat} {d : Tmp} {v : Value}, ds.Nodup → vs.length = ds.length → ds[i]? = some d → (fill a ds vs).put (some d) v = fill a ds (vs.set i v) := by
  have comm : ∀ (l : List (Tmp × Value)) (t : Array Value) (d : Tmp) (v : Value), (∀ x ∈ l, x.1 ≠ d) → (l.foldl (fun t x => t.setIfInBounds x.1 x.2) t).setIfInBounds d v = l.foldl (fun t x => t.setIfInBounds x.1 x.2) (t.setIfInBounds d v) := by
    intro l
    induction l with
    | nil => intro t d v _; rfl
    | cons x l ih =>
      intro t d v h
      simp only [List.foldl_cons]
      rw [ih _ _ _ (fun y hy => h y (List.mem_cons_of_mem _ hy)), Array.setIfInBounds_comm _ _ (h x List.mem_cons_self)]
  intro ds vs i d v hnd hl hd
  unfold fill Act.put
  simp only
  congr 1
  revert vs i a
  induction ds with
  | nil => intro a vs i hl hd; simp at hd
  | cons d0 ds ih =>
    intro a vs i hl hd
    cases vs with
    | nil => simp at hl
    | cons v0 vs =>
      obtain ⟨hn0, hn⟩ := List.nodup_cons.1 hnd
      cases i with
      | zero =>
        obtain rfl : d0 = d := by simpa using hd
        simp only [List.zip_cons_cons, List.foldl_cons, List.set_cons_zero]
        rw [comm]
        · simp [Array.setIfInBounds_setIfInBounds]
        · intro x hx he
          exact hn0 (he ▸ (List.of_mem_zip hx).1)
      | succ i =>
        simp only [List.zip_cons_cons, List.foldl_cons, List.set_cons_succ]
        exact ih (a := { a with tmps := a.tmps.setIfInBounds d0 v0 }) hn (by simpa using hl) (by simpa using hd)

/-- The operations' destinations are these, each another; the last one is not guarded and waits for all. -/
def plainB (md : Region.Mode) (ops : Array Oper) (ds : List Tmp) : Bool :=
  (ops.size == ds.length + 1) && (List.range ds.length).all (fun i => match ops[i]? with | some o => (o.dst == ds[i]?) && o.after.all (fun e => decide (e.on < i)) | none => false) &&
  decide ds.Nodup && (match ops[ds.length]? with | some o => o.guard.isNone && o.after.all (fun e => decide (e.on < ds.length)) && (List.range ds.length).all (fun j => o.after.any fun e => Region.binds md e && e.on == j) | none => false)

/-- What the first operations yield: number i the value v, which in the world w is as V i says; a later world that keeps what there was keeps V. -/
theorem region_any {id : Nat} {a0 : Act} {w0 : World} (hm : P.follows .mixedOrders = true) (ds : List Tmp) (hds : plainB .any ops ds = true) (vs0 : List Value) (hvs0 : vs0.length = ds.length) (ha0 : fill a0 ds vs0 = a0)
    (V : Nat → Value → World → Prop) (hV : ∀ i v w w', V i v w → Below w.heap.size w w' → V i v w')
    (hstep : ∀ i, i < ds.length → ∀ oi, ops[i]? = some oi → ∀ vs, vs.length = ds.length → ∀ w, Below w0.drew.heap.size w0.drew w → (∀ e ∈ oi.after, Region.binds .any e = true → V e.on (vs.getD e.on undef) w) →
      ∀ K : Act → World → Prop, (∀ v w', Below w.heap.size w w' → V i v w' → K ((fill a0 ds vs).put oi.dst v) w') →
        if Region.wanted oi (yielded ops (fill a0 ds vs).tmps) = true then oi.wp P (fill a0 ds vs) w K Q else K ((fill a0 ds vs).put oi.dst undef) w)
    (hlast : ∀ o, ops[ds.length]? = some o → ∀ vs, vs.length = ds.length → ∀ w, Below w0.drew.heap.size w0.drew w → (∀ j, j < ds.length → V j (vs.getD j undef) w) → ∀ K : Act → World → Prop, (∀ a' w', Q .normal a' w' → K a' w') → o.wp P (fill a0 ds vs) w K Q) :
    (Code.region id ops true).wp P Q a0 w0 := by
  unfold plainB at hds
  simp only [Bool.and_eq_true, beq_iff_eq, decide_eq_true_eq] at hds
  obtain ⟨⟨⟨hsz, hall⟩, hnd⟩, hlst⟩ := hds
  refine wp_region_any hm ?_
  have hset : ∀ (listed : Array Bool) (i : Nat), i < listed.size → (listed.setIfInBounds i true).getD i true = true := fun listed i h => by simp [Array.getD, h]
  have hTF : ∀ (listed : Array Bool) (j : Nat), listed.getD j false = true → listed.getD j true = true := fun listed j h => by
    rcases Nat.lt_or_ge j listed.size with h' | h'
    · simpa [Array.getD, h'] using h
    · simp [Array.getD, Nat.not_lt.2 h'] at h
  refine wpAny_inv (I := fun listed a w => listed.size = ops.size ∧ if listed.getD ds.length true = true then Q .normal a w ∧ ∀ j, listed.getD j true = true else
      ∃ vs, vs.length = ds.length ∧ a = fill a0 ds vs ∧ Below w0.drew.heap.size w0.drew w ∧ ∀ j, j < ds.length → listed.getD j true = true → V j (vs.getD j undef) w) ?_ ?_ _ _ _ _ (by simp) ?_ ?_
  · intro listed a w hI i hi
    obtain ⟨hsl, hI⟩ := hI
    obtain ⟨hun, oi, hoi, haft⟩ := mem_ready.1 hi
    have hio : i < ops.size := (Array.getElem?_eq_some_iff.1 hoi).1
    have hilt : i < listed.size := by omega
    unfold wpOp
    rw [hoi]
    simp only
    by_cases hil : i = ds.length
    · subst hil
      rw [hoi] at hlst
      simp only [Bool.and_eq_true, Option.isNone_iff_eq_none] at hlst
      rw [if_pos (by simp [Region.wanted, hlst.1.1])]
      rw [if_neg (fun h => by rw [hun] at h; cases h)] at hI
      obtain ⟨vs, hl, rfl, hb, hv⟩ := hI
      have hdone : ∀ j, j < ds.length → listed.getD j true = true := fun j hj => by
        have h1 := List.all_eq_true.1 hlst.2 j (List.mem_range.2 hj)
        obtain ⟨e, he, h2⟩ := Array.any_eq_true'.1 h1
        simp only [Bool.and_eq_true, beq_iff_eq] at h2
        have h3 := haft e he h2.1
        rw [h2.2] at h3
        exact hTF _ _ h3
      refine .inl (Oper.wp_mono (fun a' w' h' => ?_) (hlast oi hoi vs hl w hb (fun j hj => hv j hj (hdone j hj)) (fun a' w' => Q .normal a' w') (fun _ _ h => h)))
      refine ⟨by simpa using hsl, ?_⟩
      rw [if_pos (hset _ _ hilt)]
      refine ⟨h', fun j => ?_⟩
      by_cases hj : j < ds.length
      · rw [getD_set_ne true (by omega)]; exact hdone j hj
      · by_cases hj2 : j = ds.length
        · subst hj2; exact hset _ _ hilt
        · have : ¬ j < (listed.setIfInBounds ds.length true).size := by simp; omega
          simp only [Array.getD, this, dif_neg, not_false_eq_true]
    · have hid : i < ds.length := by omega
      have h1 := List.all_eq_true.1 hall i (List.mem_range.2 hid)
      rw [hoi] at h1
      simp only [Bool.and_eq_true, beq_iff_eq] at h1
      obtain ⟨hdst, hon⟩ := h1
      have hn : ¬ listed.getD ds.length true = true := fun hy => by
        rw [if_pos hy] at hI
        rw [hI.2 i] at hun
        cases hun
      rw [if_neg hn] at hI
      obtain ⟨vs, hl, rfl, hb, hv⟩ := hI
      have hgo : ∀ a' w', (∃ v, a' = (fill a0 ds vs).put oi.dst v ∧ Below w.heap.size w w' ∧ V i v w') →
          (listed.setIfInBounds i true).size = ops.size ∧ if (listed.setIfInBounds i true).getD ds.length true = true then Q .normal a' w' ∧ ∀ j, (listed.setIfInBounds i true).getD j true = true else
            ∃ vs, vs.length = ds.length ∧ a' = fill a0 ds vs ∧ Below w0.drew.heap.size w0.drew w' ∧ ∀ j, j < ds.length → (listed.setIfInBounds i true).getD j true = true → V j (vs.getD j undef) w' := by
        rintro a' w' ⟨v, rfl, hbw, hvi⟩
        refine ⟨by simpa using hsl, ?_⟩
        rw [getD_set_ne true hil, if_neg hn]
        have hdi : ds[i]? = some ds[i] := List.getElem?_eq_getElem hid
        rw [hdst, hdi, fill_set hnd hl hdi]
        refine ⟨_, by simpa using hl, rfl, hb.trans (hbw.mono hb.size), fun j hj hjl => ?_⟩
        by_cases hji : i = j
        · subst hji
          rw [List.getD_eq_getElem?_getD, List.getElem?_set_self (by omega)]
          exact hvi
        · rw [getD_set_ne true hji] at hjl
          have := hV j _ _ _ (hv j hj hjl) hbw
          rw [List.getD_eq_getElem?_getD, List.getElem?_set_ne hji, ← List.getD_eq_getElem?_getD]
          exact this
      have hs := hstep i hid oi hoi vs hl w hb (fun e he hbd => by
        have hlt : e.on < ds.length := by
          have := Array.all_eq_true_iff_forall_mem.1 hon e he
          have : e.on < i := by simpa using this
          omega
        exact hv e.on hlt (hTF _ _ (haft e he hbd))) (fun a' w' => ∃ v, a' = (fill a0 ds vs).put oi.dst v ∧ Below w.heap.size w w' ∧ V i v w') (fun v w' hb hv => ⟨v, rfl, hb, hv⟩)
      by_cases hwt : Region.wanted oi (yielded ops (fill a0 ds vs).tmps) = true
      · rw [if_pos hwt] at hs ⊢
        exact .inl (Oper.wp_mono hgo hs)
      · rw [if_neg hwt] at hs ⊢
        exact hgo _ _ hs
  · intro listed a w hI hr
    obtain ⟨hsl, hI⟩ := hI
    have hall' : listed.getD ds.length true = true := by
      -- the first that has not come up could come up
      refine Classical.byContradiction fun hn => ?_
      have hn' : listed.getD ds.length true = false := by simpa using hn
      have hleast : ∀ m, m ≤ ds.length → listed.getD m true = false → ∃ i, listed.getD i true = false ∧ ∀ j, j < i → listed.getD j true = true := by
        intro m
        induction m using Nat.strongRecOn with
        | _ m ih =>
          intro hm hmf
          by_cases hex : ∃ j, j < m ∧ listed.getD j true = false
          · obtain ⟨j, hj, hjf⟩ := hex
            exact ih j hj (by omega) hjf
          · refine ⟨m, hmf, fun j hj => ?_⟩
            cases hb : listed.getD j true with
            | true => rfl
            | false => exact absurd ⟨j, hj, hb⟩ hex
      obtain ⟨i, hif, hil⟩ := hleast _ (Nat.le_refl _) hn'
      have hi : i < listed.size := by
        rcases Nat.lt_or_ge i listed.size with h' | h'
        · exact h'
        · simp [Array.getD, Nat.not_lt.2 h'] at hif
      have hTF' : ∀ j, j < i → listed.getD j false = true := fun j hj => by
        have := hil j hj
        have hj' : j < listed.size := by omega
        simpa [Array.getD, hj'] using this
      have hio : i < ops.size := by omega
      have hmem : i ∈ Region.ready .any ops listed := by
        refine mem_ready.2 ⟨hif, ops[i], Array.getElem?_eq_getElem hio, fun e he _ => hTF' e.on ?_⟩
        by_cases hid : i < ds.length
        · have h1 := List.all_eq_true.1 hall i (List.mem_range.2 hid)
          rw [Array.getElem?_eq_getElem hio] at h1
          simp only [Bool.and_eq_true] at h1
          have := Array.all_eq_true_iff_forall_mem.1 h1.2 e he
          simpa using this
        · obtain rfl : i = ds.length := by omega
          rw [Array.getElem?_eq_getElem hio] at hlst
          simp only [Bool.and_eq_true] at hlst
          have := Array.all_eq_true_iff_forall_mem.1 hlst.1.2 e he
          simpa using this
      rw [hr] at hmem
      cases hmem
    rw [if_pos hall'] at hI
    exact hI.1
  · unfold left
    exact Nat.le_trans List.countP_le_length (by simp)
  · refine ⟨by simp, ?_⟩
    have hf : ∀ j, j < ops.size → (Array.replicate ops.size false).getD j true = false := fun j hj => by simp [Array.getD, hj]
    rw [if_neg (by rw [hf _ (by omega)]; simp)]
    refine ⟨vs0, hvs0, ha0.symm, Below.refl _ _, fun j hj hjl => ?_⟩
    rw [hf j (by omega)] at hjl
    cases hjl
end

/-! ### The same, told along the list of the operations -/
section
variable {P : Program} {ops : Array Oper} {Q : Exit → Act → World → Prop}
def predAt (Vs : List (Value → World → Prop)) (j : Nat) : Value → World → Prop := Vs.getD j (fun _ _ => True)
/-- The facts of these numbers. -/
def Known (Vs : List (Value → World → Prop)) (vs : List Value) (w : World) : List Nat → Prop
  | [] => True
  | j :: js => predAt Vs j (vs.getD j undef) w ∧ Known Vs vs w js
theorem known_of {Vs : List (Value → World → Prop)} {vs : List Value} {w : World} {l : List Nat} (h : ∀ j ∈ l, predAt Vs j (vs.getD j undef) w) : Known Vs vs w l := by
  induction l with
  | nil => trivial
  | cons j js ih => exact ⟨h j List.mem_cons_self, ih (fun k hk => h k (List.mem_cons_of_mem _ hk))⟩
/-- The numbers that an operation waits for. -/
def deps (o : Oper) : List Nat := (o.after.toList.filter fun e => Region.binds .any e).map (·.on)
/-- A goal that no tactic looks into. -/
structure Still (p : Prop) : Prop where mk :: (out : p)
def StepOk (P : Program) (ops : Array Oper) (Q : Exit → Act → World → Prop) (a0 : Act) (W : World) (ds : List Tmp) (Vs : List (Value → World → Prop)) (i : Nat) (o : Oper) : Prop :=
  ∀ vs : List Value, vs.length = ds.length → ∀ w, Below W.heap.size W w → Known Vs vs w (deps o) →
    ∀ K : Act → World → Prop, (∀ v w', Below w.heap.size w w' → predAt Vs i v w' → K ((fill a0 ds vs).put o.dst v) w') → Still (if Region.wanted o (yielded ops (fill a0 ds vs).tmps) = true then o.wp P (fill a0 ds vs) w K Q else K ((fill a0 ds vs).put o.dst undef) w)
/-- The same of an operation that is not guarded. -/
def PlainOk (P : Program) (Q : Exit → Act → World → Prop) (a0 : Act) (W : World) (ds : List Tmp) (Vs : List (Value → World → Prop)) (i : Nat) (o : Oper) : Prop :=
  ∀ vs : List Value, vs.length = ds.length → ∀ w, Below W.heap.size W w → Known Vs vs w (deps o) →
    ∀ K : Act → World → Prop, (∀ v w', Below w.heap.size w w' → predAt Vs i v w' → K ((fill a0 ds vs).put o.dst v) w') → Still (o.wp P (fill a0 ds vs) w K Q)
def seqFrom : Nat → List Tmp → List Nat
  | _, [] => []
  | k, _ :: r => k :: seqFrom (k + 1) r
theorem mem_seqFrom : ∀ {ds : List Tmp} {k j : Nat}, j ∈ seqFrom k ds → k ≤ j ∧ j < k + ds.length := by
  intro ds
  induction ds with
  | nil => intro k j h; cases h
  | cons d r ih =>
    intro k j h
    rcases List.mem_cons.1 h with rfl | h
    · simp
    · have := ih h
      simp only [List.length_cons]
      omega
def LastOk (P : Program) (Q : Exit → Act → World → Prop) (a0 : Act) (W : World) (ds : List Tmp) (Vs : List (Value → World → Prop)) (o : Oper) : Prop :=
  ∀ vs : List Value, vs.length = ds.length → ∀ w, Below W.heap.size W w → Known Vs vs w (seqFrom 0 ds) →
    ∀ K : Act → World → Prop, (∀ a' w', Q .normal a' w' → K a' w') → Still (o.wp P (fill a0 ds vs) w K Q)
def StepsOk (P : Program) (ops : Array Oper) (Q : Exit → Act → World → Prop) (a0 : Act) (W : World) (ds : List Tmp) (Vs : List (Value → World → Prop)) : Nat → List Oper → Prop
  | _, [] => True
  | _, [o] => LastOk P Q a0 W ds Vs o
  | i, o :: o' :: r => StepOk P ops Q a0 W ds Vs i o ∧ StepsOk P ops Q a0 W ds Vs (i + 1) (o' :: r)
def StableAll : List (Value → World → Prop) → Prop
  | [] => True
  | V :: r => (∀ v w w', V v w → Below w.heap.size w w' → V v w') ∧ StableAll r
theorem stable_at {Vs : List (Value → World → Prop)} (h : StableAll Vs) : ∀ i v w w', predAt Vs i v w → Below w.heap.size w w' → predAt Vs i v w' := by
  induction Vs with
  | nil => intro i v w w' _ _; simp [predAt]
  | cons V r ih =>
    intro i v w w' hv hb
    cases i with
    | zero => exact h.1 v w w' hv hb
    | succ i => exact ih h.2 i v w w' hv hb
theorem steps_at {a0 : Act} {W : World} {ds : List Tmp} {Vs : List (Value → World → Prop)} : ∀ {l : List Oper} {k : Nat}, StepsOk P ops Q a0 W ds Vs k l →
    (∀ i o, l[i]? = some o → i + 1 < l.length → StepOk P ops Q a0 W ds Vs (k + i) o) ∧ (∀ o, l[l.length - 1]? = some o → LastOk P Q a0 W ds Vs o) := by
  intro l
  induction l with
  | nil => intro k _; exact ⟨fun i o h => by simp at h, fun o h => by simp at h⟩
  | cons o0 r ih =>
    intro k h
    cases r with
    | nil =>
      refine ⟨fun i o _ hl => by simp at hl, fun o ho => ?_⟩
      obtain rfl : o0 = o := by simpa using ho
      exact h
    | cons o1 r =>
      obtain ⟨h1, h2⟩ := ih h.2
      refine ⟨fun i o ho hl => ?_, fun o ho => h2 o (by simpa using ho)⟩
      cases i with
      | zero =>
        obtain rfl : o0 = o := by simpa using ho
        exact h.1
      | succ i =>
        have := h1 i o (by simpa using ho) (by simpa using hl)
        rwa [show k + 1 + i = k + (i + 1) by omega] at this

theorem steps_one {a0 : Act} {W : World} {ds : List Tmp} {Vs : List (Value → World → Prop)} {k : Nat} {o : Oper} (h : LastOk P Q a0 W ds Vs o) : StepsOk P ops Q a0 W ds Vs k [o] := h
theorem steps_cons {a0 : Act} {W : World} {ds : List Tmp} {Vs : List (Value → World → Prop)} {k : Nat} {o o' : Oper} {r : List Oper} (h : StepOk P ops Q a0 W ds Vs k o) (hr : StepsOk P ops Q a0 W ds Vs (k + 1) (o' :: r)) : StepsOk P ops Q a0 W ds Vs k (o :: o' :: r) := ⟨h, hr⟩
theorem steps_plain {a0 : Act} {W : World} {ds : List Tmp} {Vs : List (Value → World → Prop)} {k : Nat} {o o' : Oper} {r : List Oper} (hg : o.guard = none) (h : PlainOk P Q a0 W ds Vs k o) (hr : StepsOk P ops Q a0 W ds Vs (k + 1) (o' :: r)) : StepsOk P ops Q a0 W ds Vs k (o :: o' :: r) :=
  ⟨fun vs hl w hb hd K hK => ⟨by rw [if_pos (by simp [Region.wanted, hg])]; exact (h vs hl w hb hd K hK).out⟩, hr⟩
theorem region_list {id : Nat} {l : List Oper} {a0 : Act} {w0 : World} (hm : P.follows .mixedOrders = true) (ds : List Tmp) (vs0 : List Value) (Vs : List (Value → World → Prop))
    (hds : plainB .any l.toArray ds = true) (hvs0 : vs0.length = ds.length) (ha0 : fill a0 ds vs0 = a0) (hV : StableAll Vs) (h : StepsOk P l.toArray Q a0 w0.drew ds Vs 0 l) : (Code.region id l.toArray true).wp P Q a0 w0 := by
  obtain ⟨h1, h2⟩ := steps_at h
  have hlen : l.length = ds.length + 1 := by
    unfold plainB at hds
    simp only [Bool.and_eq_true, beq_iff_eq] at hds
    simpa using hds.1.1.1
  refine region_any hm ds hds vs0 hvs0 ha0 (predAt Vs) (stable_at hV) ?_ ?_
  · intro i hi oi hoi vs hl w hb hd K hK
    have := h1 i oi (by simpa using hoi) (by omega)
    rw [Nat.zero_add] at this
    refine (this vs hl w hb (known_of fun j hj => ?_) K hK).out
    obtain ⟨e, he, rfl⟩ := List.mem_map.1 hj
    obtain ⟨he1, he2⟩ := List.mem_filter.1 he
    exact hd e (by simpa using he1) he2
  · intro o ho vs hl w hb hd K hK
    refine (h2 o ?_ vs hl w hb (known_of fun j hj => hd j (by have := (mem_seqFrom hj).2; omega)) K hK).out
    rw [hlen, Nat.add_sub_cancel]
    simpa using ho
end
theorem len1 {vs : List Value} (h : vs.length = 1) : ∃ v0, vs = [v0] := by
  match vs, h with
  | [v0], _ => exact ⟨v0, rfl⟩
theorem len2 {vs : List Value} (h : vs.length = 2) : ∃ v0 v1, vs = [v0, v1] := by
  match vs, h with
  | v :: r, h =>
    obtain ⟨v0, rfl⟩ := len1 (vs := r) (by simpa using h)
    exact ⟨v, v0, rfl⟩
theorem len3 {vs : List Value} (h : vs.length = 3) : ∃ v0 v1 v2, vs = [v0, v1, v2] := by
  match vs, h with
  | v :: r, h =>
    obtain ⟨v0, v1, rfl⟩ := len2 (vs := r) (by simpa using h)
    exact ⟨v, v0, v1, rfl⟩
theorem len4 {vs : List Value} (h : vs.length = 4) : ∃ v0 v1 v2 v3, vs = [v0, v1, v2, v3] := by
  match vs, h with
  | v :: r, h =>
    obtain ⟨v0, v1, v2, rfl⟩ := len3 (vs := r) (by simpa using h)
    exact ⟨v, v0, v1, v2, rfl⟩
theorem len5 {vs : List Value} (h : vs.length = 5) : ∃ v0 v1 v2 v3 v4, vs = [v0, v1, v2, v3, v4] := by
  match vs, h with
  | v :: r, h =>
    obtain ⟨v0, v1, v2, v3, rfl⟩ := len4 (vs := r) (by simpa using h)
    exact ⟨v, v0, v1, v2, v3, rfl⟩
theorem len6 {vs : List Value} (h : vs.length = 6) : ∃ v0 v1 v2 v3 v4 v5, vs = [v0, v1, v2, v3, v4, v5] := by
  match vs, h with
  | v :: r, h =>
    obtain ⟨v0, v1, v2, v3, v4, rfl⟩ := len5 (vs := r) (by simpa using h)
    exact ⟨v, v0, v1, v2, v3, v4, rfl⟩
theorem len7 {vs : List Value} (h : vs.length = 7) : ∃ v0 v1 v2 v3 v4 v5 v6, vs = [v0, v1, v2, v3, v4, v5, v6] := by
  match vs, h with
  | v :: r, h =>
    obtain ⟨v0, v1, v2, v3, v4, v5, rfl⟩ := len6 (vs := r) (by simpa using h)
    exact ⟨v, v0, v1, v2, v3, v4, v5, rfl⟩
theorem len8 {vs : List Value} (h : vs.length = 8) : ∃ v0 v1 v2 v3 v4 v5 v6 v7, vs = [v0, v1, v2, v3, v4, v5, v6, v7] := by
  match vs, h with
  | v :: r, h =>
    obtain ⟨v0, v1, v2, v3, v4, v5, v6, rfl⟩ := len7 (vs := r) (by simpa using h)
    exact ⟨v, v0, v1, v2, v3, v4, v5, v6, rfl⟩
theorem len9 {vs : List Value} (h : vs.length = 9) : ∃ v0 v1 v2 v3 v4 v5 v6 v7 v8, vs = [v0, v1, v2, v3, v4, v5, v6, v7, v8] := by
  match vs, h with
  | v :: r, h =>
    obtain ⟨v0, v1, v2, v3, v4, v5, v6, v7, rfl⟩ := len8 (vs := r) (by simpa using h)
    exact ⟨v, v0, v1, v2, v3, v4, v5, v6, v7, rfl⟩
theorem len10 {vs : List Value} (h : vs.length = 10) : ∃ v0 v1 v2 v3 v4 v5 v6 v7 v8 v9, vs = [v0, v1, v2, v3, v4, v5, v6, v7, v8, v9] := by
  match vs, h with
  | v :: r, h =>
    obtain ⟨v0, v1, v2, v3, v4, v5, v6, v7, v8, rfl⟩ := len9 (vs := r) (by simpa using h)
    exact ⟨v, v0, v1, v2, v3, v4, v5, v6, v7, v8, rfl⟩
theorem len11 {vs : List Value} (h : vs.length = 11) : ∃ v0 v1 v2 v3 v4 v5 v6 v7 v8 v9 v10, vs = [v0, v1, v2, v3, v4, v5, v6, v7, v8, v9, v10] := by
  match vs, h with
  | v :: r, h =>
    obtain ⟨v0, v1, v2, v3, v4, v5, v6, v7, v8, v9, rfl⟩ := len10 (vs := r) (by simpa using h)
    exact ⟨v, v0, v1, v2, v3, v4, v5, v6, v7, v8, v9, rfl⟩
theorem len12 {vs : List Value} (h : vs.length = 12) : ∃ v0 v1 v2 v3 v4 v5 v6 v7 v8 v9 v10 v11, vs = [v0, v1, v2, v3, v4, v5, v6, v7, v8, v9, v10, v11] := by
  match vs, h with
  | v :: r, h =>
    obtain ⟨v0, v1, v2, v3, v4, v5, v6, v7, v8, v9, v10, rfl⟩ := len11 (vs := r) (by simpa using h)
    exact ⟨v, v0, v1, v2, v3, v4, v5, v6, v7, v8, v9, v10, rfl⟩
theorem len13 {vs : List Value} (h : vs.length = 13) : ∃ v0 v1 v2 v3 v4 v5 v6 v7 v8 v9 v10 v11 v12, vs = [v0, v1, v2, v3, v4, v5, v6, v7, v8, v9, v10, v11, v12] := by
  match vs, h with
  | v :: r, h =>
    obtain ⟨v0, v1, v2, v3, v4, v5, v6, v7, v8, v9, v10, v11, rfl⟩ := len12 (vs := r) (by simpa using h)
    exact ⟨v, v0, v1, v2, v3, v4, v5, v6, v7, v8, v9, v10, v11, rfl⟩
theorem len14 {vs : List Value} (h : vs.length = 14) : ∃ v0 v1 v2 v3 v4 v5 v6 v7 v8 v9 v10 v11 v12 v13, vs = [v0, v1, v2, v3, v4, v5, v6, v7, v8, v9, v10, v11, v12, v13] := by
  match vs, h with
  | v :: r, h =>
    obtain ⟨v0, v1, v2, v3, v4, v5, v6, v7, v8, v9, v10, v11, v12, rfl⟩ := len13 (vs := r) (by simpa using h)
    exact ⟨v, v0, v1, v2, v3, v4, v5, v6, v7, v8, v9, v10, v11, v12, rfl⟩
theorem len15 {vs : List Value} (h : vs.length = 15) : ∃ v0 v1 v2 v3 v4 v5 v6 v7 v8 v9 v10 v11 v12 v13 v14, vs = [v0, v1, v2, v3, v4, v5, v6, v7, v8, v9, v10, v11, v12, v13, v14] := by
  match vs, h with
  | v :: r, h =>
    obtain ⟨v0, v1, v2, v3, v4, v5, v6, v7, v8, v9, v10, v11, v12, v13, rfl⟩ := len14 (vs := r) (by simpa using h)
    exact ⟨v, v0, v1, v2, v3, v4, v5, v6, v7, v8, v9, v10, v11, v12, v13, rfl⟩
theorem len16 {vs : List Value} (h : vs.length = 16) : ∃ v0 v1 v2 v3 v4 v5 v6 v7 v8 v9 v10 v11 v12 v13 v14 v15, vs = [v0, v1, v2, v3, v4, v5, v6, v7, v8, v9, v10, v11, v12, v13, v14, v15] := by
  match vs, h with
  | v :: r, h =>
    obtain ⟨v0, v1, v2, v3, v4, v5, v6, v7, v8, v9, v10, v11, v12, v13, v14, rfl⟩ := len15 (vs := r) (by simpa using h)
    exact ⟨v, v0, v1, v2, v3, v4, v5, v6, v7, v8, v9, v10, v11, v12, v13, v14, rfl⟩
theorem len17 {vs : List Value} (h : vs.length = 17) : ∃ v0 v1 v2 v3 v4 v5 v6 v7 v8 v9 v10 v11 v12 v13 v14 v15 v16, vs = [v0, v1, v2, v3, v4, v5, v6, v7, v8, v9, v10, v11, v12, v13, v14, v15, v16] := by
  match vs, h with
  | v :: r, h =>
    obtain ⟨v0, v1, v2, v3, v4, v5, v6, v7, v8, v9, v10, v11, v12, v13, v14, v15, rfl⟩ := len16 (vs := r) (by simpa using h)
    exact ⟨v, v0, v1, v2, v3, v4, v5, v6, v7, v8, v9, v10, v11, v12, v13, v14, v15, rfl⟩
theorem len18 {vs : List Value} (h : vs.length = 18) : ∃ v0 v1 v2 v3 v4 v5 v6 v7 v8 v9 v10 v11 v12 v13 v14 v15 v16 v17, vs = [v0, v1, v2, v3, v4, v5, v6, v7, v8, v9, v10, v11, v12, v13, v14, v15, v16, v17] := by
  match vs, h with
  | v :: r, h =>
    obtain ⟨v0, v1, v2, v3, v4, v5, v6, v7, v8, v9, v10, v11, v12, v13, v14, v15, v16, rfl⟩ := len17 (vs := r) (by simpa using h)
    exact ⟨v, v0, v1, v2, v3, v4, v5, v6, v7, v8, v9, v10, v11, v12, v13, v14, v15, v16, rfl⟩
theorem len19 {vs : List Value} (h : vs.length = 19) : ∃ v0 v1 v2 v3 v4 v5 v6 v7 v8 v9 v10 v11 v12 v13 v14 v15 v16 v17 v18, vs = [v0, v1, v2, v3, v4, v5, v6, v7, v8, v9, v10, v11, v12, v13, v14, v15, v16, v17, v18] := by
  match vs, h with
  | v :: r, h =>
    obtain ⟨v0, v1, v2, v3, v4, v5, v6, v7, v8, v9, v10, v11, v12, v13, v14, v15, v16, v17, rfl⟩ := len18 (vs := r) (by simpa using h)
    exact ⟨v, v0, v1, v2, v3, v4, v5, v6, v7, v8, v9, v10, v11, v12, v13, v14, v15, v16, v17, rfl⟩
theorem len20 {vs : List Value} (h : vs.length = 20) : ∃ v0 v1 v2 v3 v4 v5 v6 v7 v8 v9 v10 v11 v12 v13 v14 v15 v16 v17 v18 v19, vs = [v0, v1, v2, v3, v4, v5, v6, v7, v8, v9, v10, v11, v12, v13, v14, v15, v16, v17, v18, v19] := by
  match vs, h with
  | v :: r, h =>
    obtain ⟨v0, v1, v2, v3, v4, v5, v6, v7, v8, v9, v10, v11, v12, v13, v14, v15, v16, v17, v18, rfl⟩ := len19 (vs := r) (by simpa using h)
    exact ⟨v, v0, v1, v2, v3, v4, v5, v6, v7, v8, v9, v10, v11, v12, v13, v14, v15, v16, v17, v18, rfl⟩
theorem len21 {vs : List Value} (h : vs.length = 21) : ∃ v0 v1 v2 v3 v4 v5 v6 v7 v8 v9 v10 v11 v12 v13 v14 v15 v16 v17 v18 v19 v20, vs = [v0, v1, v2, v3, v4, v5, v6, v7, v8, v9, v10, v11, v12, v13, v14, v15, v16, v17, v18, v19, v20] := by
  match vs, h with
  | v :: r, h =>
    obtain ⟨v0, v1, v2, v3, v4, v5, v6, v7, v8, v9, v10, v11, v12, v13, v14, v15, v16, v17, v18, v19, rfl⟩ := len20 (vs := r) (by simpa using h)
    exact ⟨v, v0, v1, v2, v3, v4, v5, v6, v7, v8, v9, v10, v11, v12, v13, v14, v15, v16, v17, v18, v19, rfl⟩
theorem len22 {vs : List Value} (h : vs.length = 22) : ∃ v0 v1 v2 v3 v4 v5 v6 v7 v8 v9 v10 v11 v12 v13 v14 v15 v16 v17 v18 v19 v20 v21, vs = [v0, v1, v2, v3, v4, v5, v6, v7, v8, v9, v10, v11, v12, v13, v14, v15, v16, v17, v18, v19, v20, v21] := by
  match vs, h with
  | v :: r, h =>
    obtain ⟨v0, v1, v2, v3, v4, v5, v6, v7, v8, v9, v10, v11, v12, v13, v14, v15, v16, v17, v18, v19, v20, rfl⟩ := len21 (vs := r) (by simpa using h)
    exact ⟨v, v0, v1, v2, v3, v4, v5, v6, v7, v8, v9, v10, v11, v12, v13, v14, v15, v16, v17, v18, v19, v20, rfl⟩
theorem len23 {vs : List Value} (h : vs.length = 23) : ∃ v0 v1 v2 v3 v4 v5 v6 v7 v8 v9 v10 v11 v12 v13 v14 v15 v16 v17 v18 v19 v20 v21 v22, vs = [v0, v1, v2, v3, v4, v5, v6, v7, v8, v9, v10, v11, v12, v13, v14, v15, v16, v17, v18, v19, v20, v21, v22] := by
  match vs, h with
  | v :: r, h =>
    obtain ⟨v0, v1, v2, v3, v4, v5, v6, v7, v8, v9, v10, v11, v12, v13, v14, v15, v16, v17, v18, v19, v20, v21, rfl⟩ := len22 (vs := r) (by simpa using h)
    exact ⟨v, v0, v1, v2, v3, v4, v5, v6, v7, v8, v9, v10, v11, v12, v13, v14, v15, v16, v17, v18, v19, v20, v21, rfl⟩
theorem len24 {vs : List Value} (h : vs.length = 24) : ∃ v0 v1 v2 v3 v4 v5 v6 v7 v8 v9 v10 v11 v12 v13 v14 v15 v16 v17 v18 v19 v20 v21 v22 v23, vs = [v0, v1, v2, v3, v4, v5, v6, v7, v8, v9, v10, v11, v12, v13, v14, v15, v16, v17, v18, v19, v20, v21, v22, v23] := by
  match vs, h with
  | v :: r, h =>
    obtain ⟨v0, v1, v2, v3, v4, v5, v6, v7, v8, v9, v10, v11, v12, v13, v14, v15, v16, v17, v18, v19, v20, v21, v22, rfl⟩ := len23 (vs := r) (by simpa using h)
    exact ⟨v, v0, v1, v2, v3, v4, v5, v6, v7, v8, v9, v10, v11, v12, v13, v14, v15, v16, v17, v18, v19, v20, v21, v22, rfl⟩
theorem len25 {vs : List Value} (h : vs.length = 25) : ∃ v0 v1 v2 v3 v4 v5 v6 v7 v8 v9 v10 v11 v12 v13 v14 v15 v16 v17 v18 v19 v20 v21 v22 v23 v24, vs = [v0, v1, v2, v3, v4, v5, v6, v7, v8, v9, v10, v11, v12, v13, v14, v15, v16, v17, v18, v19, v20, v21, v22, v23, v24] := by
  match vs, h with
  | v :: r, h =>
    obtain ⟨v0, v1, v2, v3, v4, v5, v6, v7, v8, v9, v10, v11, v12, v13, v14, v15, v16, v17, v18, v19, v20, v21, v22, v23, rfl⟩ := len24 (vs := r) (by simpa using h)
    exact ⟨v, v0, v1, v2, v3, v4, v5, v6, v7, v8, v9, v10, v11, v12, v13, v14, v15, v16, v17, v18, v19, v20, v21, v22, v23, rfl⟩
theorem len26 {vs : List Value} (h : vs.length = 26) : ∃ v0 v1 v2 v3 v4 v5 v6 v7 v8 v9 v10 v11 v12 v13 v14 v15 v16 v17 v18 v19 v20 v21 v22 v23 v24 v25, vs = [v0, v1, v2, v3, v4, v5, v6, v7, v8, v9, v10, v11, v12, v13, v14, v15, v16, v17, v18, v19, v20, v21, v22, v23, v24, v25] := by
  match vs, h with
  | v :: r, h =>
    obtain ⟨v0, v1, v2, v3, v4, v5, v6, v7, v8, v9, v10, v11, v12, v13, v14, v15, v16, v17, v18, v19, v20, v21, v22, v23, v24, rfl⟩ := len25 (vs := r) (by simpa using h)
    exact ⟨v, v0, v1, v2, v3, v4, v5, v6, v7, v8, v9, v10, v11, v12, v13, v14, v15, v16, v17, v18, v19, v20, v21, v22, v23, v24, rfl⟩
end Go.Proofs.Ytphfmcdkldcmiaa.Rg
/- A region that draws its order, whose operations read, reckon, call, make variables and fill them: what each does is told once, whatever the order. -/
namespace Go.Proofs.Ytphfmcdkldcmiaa.Rs
open Go Go.RowKit Go.Proofs.Ytphfmcdkldcmiaa.Rg
set_option linter.unusedVariables false
/-- The frame with these slots filled; an operation without a slot fills none. -/
def fillO (a : Act) (ds : List (Option Tmp)) (vs : List Value) : Act := { a with tmps := (ds.zip vs).foldl (fun t x => match x.1 with | some d => t.setIfInBounds d x.2 | none => t) a.tmps }
def step1 (t : Array Value) (x : Option Tmp × Value) : Array Value := match x.1 with | some d => t.setIfInBounds d x.2 | none => t
theorem fold_comm : ∀ (l : List (Option Tmp × Value)) (t : Array Value) (d : Tmp) (v : Value), (∀ x ∈ l, x.1 ≠ some d) → (l.foldl step1 t).setIfInBounds d v = l.foldl step1 (t.setIfInBounds d v) := by
  intro l
  induction l with
  | nil => intro t d v _; rfl
  | cons x l ih =>
    intro t d v h
    simp only [List.foldl_cons]
    rw [ih _ _ _ (fun y hy => h y (List.mem_cons_of_mem _ hy))]
    congr 1
    obtain ⟨xd, xv⟩ := x
    cases xd with
    | none => rfl
    | some e =>
      have hne : e ≠ d := fun he => h _ List.mem_cons_self (by rw [he])
      exact Array.setIfInBounds_comm _ _ hne
theorem fold_set : ∀ {ds : List (Option Tmp)} {vs : List Value} {i : Nat} {d : Option Tmp} {v : Value} {t : Array Value}, (ds.filterMap id).Nodup → vs.length = ds.length → ds[i]? = some d →
    step1 ((ds.zip vs).foldl step1 t) (d, v) = (ds.zip (vs.set i v)).foldl step1 t := by
  intro ds
  induction ds with
  | nil => intro vs i d v t hnd hl hd; simp at hd
  | cons d0 ds ih =>
    intro vs i d v t hnd hl hd
    cases vs with
    | nil => simp at hl
    | cons v0 vs =>
      have hn : (ds.filterMap id).Nodup := by
        cases d0 with
        | none => exact hnd
        | some e => exact (List.nodup_cons.1 hnd).2
      cases i with
      | zero =>
        obtain rfl : d0 = d := by simpa using hd
        simp only [List.zip_cons_cons, List.foldl_cons, List.set_cons_zero]
        cases d0 with
        | none => rfl
        | some e =>
          have hn0 := (List.nodup_cons.1 hnd).1
          show (List.foldl step1 _ _).setIfInBounds e v = _
          rw [fold_comm]
          · simp only [step1, Array.setIfInBounds_setIfInBounds]
          · intro x hx he
            have hm := (List.of_mem_zip hx).1
            rw [he] at hm
            exact hn0 (List.mem_filterMap.2 ⟨_, hm, rfl⟩)
      | succ i =>
        simp only [List.zip_cons_cons, List.foldl_cons, List.set_cons_succ]
        exact ih hn (by simpa using hl) (by simpa using hd)
theorem fillO_set {a : Act} {ds : List (Option Tmp)} {vs : List Value} {i : Nat} {d : Option Tmp} {v : Value} (hnd : (ds.filterMap id).Nodup) (hl : vs.length = ds.length) (hd : ds[i]? = some d) : (fillO a ds vs).put d v = fillO a ds (vs.set i v) := by
  have h := fold_set (v := v) (t := a.tmps) hnd hl hd
  show _ = ({ a with tmps := (ds.zip (vs.set i v)).foldl step1 a.tmps } : Act)
  rw [← h]
  cases d <;> rfl

/-- What an operation does: it yields a value of which p; it makes a variable (type t, as z is), which operation k fills so that q; it fills the variable of operation j. -/
inductive Sp where
  | val (p : Value → Prop)
  | new (t : TypeId) (z : Array Value) (k : Nat) (q : Array Value → Prop)
  | put (j : Nat)
def Sp.isNew : Sp → Bool
  | .new .. => true
  | _ => false
/-- The made variable at g, and what it holds. -/
def At (W0 : World) (w : World) (g : Nat) (t : TypeId) (p : Array Value → Prop) : Prop := W0.heap.size ≤ g ∧ g < w.heap.size ∧ ∃ cs, w.heap[g]? = some (.cells cs t (0, 0)) ∧ p cs
def Have (S : List Sp) (W0 : World) (D : Nat → Bool) (vs : List Value) (w : World) (i : Nat) : Prop :=
  match S[i]? with
  | some (.val p) => p (vs.getD i undef)
  | some (.new t z k q) => ∃ g, vs.getD i undef = .pointer (some ⟨g, 0, none⟩) ∧ At W0 w g t (fun cs => (D k = true → q cs) ∧ (D k = false → cs = z))
  | _ => True
/-- What an operation may lean on of one that it waits for. -/
def Lean1 (S : List Sp) (W0 : World) (vs : List Value) (w : World) (i : Nat) : Prop :=
  match S[i]? with
  | some (.val p) => p (vs.getD i undef)
  | some (.new t z k q) => ∃ g, vs.getD i undef = .pointer (some ⟨g, 0, none⟩) ∧ At W0 w g t (fun cs => cs = z ∨ q cs)
  | some (.put j) => match S[j]? with
    | some (.new t z k q) => ∃ g, vs.getD j undef = .pointer (some ⟨g, 0, none⟩) ∧ At W0 w g t q
    | _ => True
  | none => True
def LeanAll (S : List Sp) (W0 : World) (vs : List Value) (w : World) : List Nat → Prop
  | [] => True
  | j :: js => Lean1 S W0 vs w j ∧ LeanAll S W0 vs w js
theorem leanAll_of {S : List Sp} {W0 : World} {vs : List Value} {w : World} {l : List Nat} (h : ∀ j ∈ l, Lean1 S W0 vs w j) : LeanAll S W0 vs w l := by
  induction l with
  | nil => trivial
  | cons j js ih => exact ⟨h j List.mem_cons_self, ih (fun k hk => h k (List.mem_cons_of_mem _ hk))⟩
/-- One block is changed, and nothing else. -/
structure Filled (w w' : World) (g : Nat) (t : TypeId) (q : Array Value → Prop) : Prop where
  os : w'.os = w.os
  tape : w'.tape = w.tape
  output : w'.output = w.output
  size : w'.heap.size = w.heap.size
  other : ∀ b, b ≠ g → w'.heap[b]? = w.heap[b]?
  here : ∃ cs, w'.heap[g]? = some (.cells cs t (0, 0)) ∧ q cs
section
variable {P : Program} {ops : Array Oper} {Q : Exit → Act → World → Prop}
def OpOk (P : Program) (ops : Array Oper) (Q : Exit → Act → World → Prop) (a0 : Act) (W0 : World) (ds : List (Option Tmp)) (S : List Sp) (o : Oper) (s : Sp) : Prop :=
  ∀ vs : List Value, vs.length = ds.length → ∀ w, Below W0.heap.size W0 w → LeanAll S W0 vs w (deps o) →
    match s with
    | .val p => ∀ K : Act → World → Prop, (∀ v w', Below w.heap.size w w' → p v → K ((fillO a0 ds vs).put o.dst v) w') → Still (if Region.wanted o (yielded ops (fillO a0 ds vs).tmps) = true then o.wp P (fillO a0 ds vs) w K Q else K ((fillO a0 ds vs).put o.dst undef) w)
    | .new t z k q => ∀ K : Act → World → Prop, K ((fillO a0 ds vs).put o.dst (.pointer (some ⟨w.heap.size, 0, none⟩))) (w.alloc (.cells z t)) → Still (if Region.wanted o (yielded ops (fillO a0 ds vs).tmps) = true then o.wp P (fillO a0 ds vs) w K Q else K ((fillO a0 ds vs).put o.dst undef) w)
    | .put j => match S[j]? with
      | some (.new t z k q) => ∀ g, vs.getD j undef = .pointer (some ⟨g, 0, none⟩) → w.heap[g]? = some (.cells z t (0, 0)) → ∀ K : Act → World → Prop, (∀ w', Filled w w' g t q → K (fillO a0 ds vs) w') → Still (if Region.wanted o (yielded ops (fillO a0 ds vs).tmps) = true then o.wp P (fillO a0 ds vs) w K Q else K ((fillO a0 ds vs).put o.dst undef) w)
      | _ => False
def AllOk (P : Program) (ops : Array Oper) (Q : Exit → Act → World → Prop) (a0 : Act) (W0 : World) (ds : List (Option Tmp)) (S : List Sp) : List Oper → List Sp → Prop
  | o :: r, s :: r' => OpOk P ops Q a0 W0 ds S o s ∧ AllOk P ops Q a0 W0 ds S r r'
  | [], [] => True
  | _, _ => False
theorem allOk_at {a0 : Act} {W0 : World} {ds : List (Option Tmp)} {S : List Sp} : ∀ {l : List Oper} {l' : List Sp}, AllOk P ops Q a0 W0 ds S l l' → ∀ (i : Nat) (o : Oper) (s : Sp), l[i]? = some o → l'[i]? = some s → OpOk P ops Q a0 W0 ds S o s := by
  intro l
  induction l with
  | nil => intro l' _ i o s h; simp at h
  | cons o0 r ih =>
    intro l' h i o s ho hs
    cases l' with
    | nil => exact h.elim
    | cons s0 r' =>
      cases i with
      | zero =>
        obtain rfl : o0 = o := by simpa using ho
        obtain rfl : s0 = s := by simpa using hs
        exact h.1
      | succ i => exact ih h.2 i o s (by simpa using ho) (by simpa using hs)
/-- The operations wait for earlier ones alone, each slot is filled once, and made variables and fillings belong together. -/
def okSp (ops : Array Oper) (ds : List (Option Tmp)) (S : List Sp) : Bool :=
  (ops.size == ds.length) && (S.length == ds.length) && (List.range ds.length).all (fun i => match ops[i]? with | some o => (some o.dst == ds[i]?) && o.after.all (fun e => !(Region.binds .any e) || decide (e.on < i)) | none => false) &&
  decide (ds.filterMap id).Nodup &&
  (List.range ds.length).all (fun i => match S[i]? with
    | some (.new t z k q) => (decide (ds.length ≤ k) || (match S[k]? with | some (.put j) => j == i | _ => false))
    | some (.put j) => (ds[i]? == some none) && (match S[j]? with | some (.new t z k q) => k == i | _ => false) && (match ops[i]? with | some o => o.after.any (fun e => Region.binds .any e && e.on == j) | none => false)
    | _ => true)
def Apart (S : List Sp) (vs : List Value) : Prop := ∀ i j, i ≠ j → (match S[i]? with | some s => s.isNew | none => false) = true → (match S[j]? with | some s => s.isNew | none => false) = true → vs.getD i undef ≠ vs.getD j undef
def EndsOk (Q : Exit → Act → World → Prop) (a0 : Act) (W0 : World) (ds : List (Option Tmp)) (S : List Sp) : Prop :=
  ∀ vs : List Value, vs.length = ds.length → ∀ w, Below W0.heap.size W0 w → LeanAll S W0 vs w (seqO 0 ds) → Apart S vs → Q .normal (fillO a0 ds vs) w
where seqO : Nat → List (Option Tmp) → List Nat
  | _, [] => []
  | k, _ :: r => k :: seqO (k + 1) r
theorem mem_seqO : ∀ {ds : List (Option Tmp)} {k j : Nat}, j ∈ EndsOk.seqO k ds → k ≤ j ∧ j < k + ds.length := by
  intro ds
  induction ds with
  | nil => intro k j h; cases h
  | cons d r ih =>
    intro k j h
    rcases List.mem_cons.1 h with rfl | h
    · simp
    · have := ih h
      simp only [List.length_cons]
      omega
theorem dSet_self {l : Array Bool} {i : Nat} (h : i < l.size) : (l.setIfInBounds i true).getD i false = true := by simp [Array.getD, h]
theorem dSet_ne {l : Array Bool} {i j : Nat} (h : i ≠ j) : (l.setIfInBounds i true).getD j false = l.getD j false := getD_set_ne false h
theorem dOut {l : Array Bool} {i : Nat} (h : l.size ≤ i) : l.getD i false = false := by simp [Array.getD, Nat.not_lt.2 h]
structure Inv (S : List Sp) (W0 : World) (n : Nat) (listed : Array Bool) (vs : List Value) (w : World) : Prop where
  below : Below W0.heap.size W0 w
  have_ : ∀ j, j < n → listed.getD j false = true → Have S W0 (fun k => listed.getD k false) vs w j
  apart : ∀ i j, i ≠ j → listed.getD i false = true → listed.getD j false = true → (match S[i]? with | some s => s.isNew | none => false) = true → (match S[j]? with | some s => s.isNew | none => false) = true → vs.getD i undef ≠ vs.getD j undef
  putAfter : ∀ k j : Nat, S[k]? = some (Sp.put j) → listed.getD k false = true → listed.getD j false = true
theorem getD_setSelf {vs : List Value} {i : Nat} {v : Value} (h : i < vs.length) : (vs.set i v).getD i undef = v := by
  rw [List.getD_eq_getElem?_getD, List.getElem?_set_self h]; rfl
theorem getD_setNe {vs : List Value} {i j : Nat} {v : Value} (h : i ≠ j) : (vs.set i v).getD j undef = vs.getD j undef := by
  rw [List.getD_eq_getElem?_getD, List.getElem?_set_ne h, ← List.getD_eq_getElem?_getD]
theorem at_below {W0 w w' : World} {g : Nat} {t : TypeId} {p p' : Array Value → Prop} (h : At W0 w g t p) (hb : Below w.heap.size w w') (hp : ∀ cs, p cs → p' cs) : At W0 w' g t p' := by
  obtain ⟨h1, h2, cs, h3, h4⟩ := h
  exact ⟨h1, Nat.lt_of_lt_of_le h2 hb.size, cs, (hb.block g h2).trans h3, hp _ h4⟩
/-- What holds after a step that keeps all blocks. -/
theorem inv_val {S : List Sp} {W0 : World} {n : Nat} {listed : Array Bool} {vs : List Value} {w w' : World} {i : Nat} {v : Value} (hI : Inv S W0 n listed vs w) (hin : i < n) (hln : listed.size = n) (hvn : vs.length = n)
    (hb : Below w.heap.size w w') (hS : (match S[i]? with | some s => s.isNew | none => false) = false) (hk : ∀ (j : Nat) t z k q, S[j]? = some (Sp.new t z k q) → k ≠ i) (hpp : ∀ j, S[i]? ≠ some (Sp.put j)) (hp : ∀ p, S[i]? = some (Sp.val p) → p v) : Inv S W0 n (listed.setIfInBounds i true) (vs.set i v) w' := by
  refine ⟨hI.below.trans (hb.mono hI.below.size), fun j hj hjl => ?_, fun a b hab ha hb' hna hnb => ?_, fun k j hkj hkl => ?_⟩
  · by_cases hji : i = j
    · subst hji
      unfold Have
      cases hSi : S[i]? with
      | none => trivial
      | some s =>
        cases s with
        | val p => simp only; rw [getD_setSelf (by omega)]; exact hp p hSi
        | new t z k q => rw [hSi] at hS; cases hS
        | put j => exact trivial
    · have h := hI.have_ j hj ((dSet_ne hji).symm.trans hjl)
      unfold Have at h ⊢
      rw [getD_setNe hji]
      cases hSj : S[j]? with
      | none => trivial
      | some s =>
        rw [hSj] at h
        cases s with
        | val p => exact h
        | new t z k q =>
          obtain ⟨g, h1, h2⟩ := h
          refine ⟨g, h1, at_below h2 hb fun cs hc => ?_⟩
          have e := dSet_ne (l := listed) (Ne.symm (hk j t z k q hSj))
          exact ⟨fun h => hc.1 (e.symm.trans h), fun h => hc.2 (e.symm.trans h)⟩
        | put j => exact trivial
  · have hia : i ≠ a := fun h => by subst h; rw [hS] at hna; cases hna
    have hib : i ≠ b := fun h => by subst h; rw [hS] at hnb; cases hnb
    rw [getD_setNe hia, getD_setNe hib]
    exact hI.apart a b hab ((dSet_ne hia).symm.trans ha) ((dSet_ne hib).symm.trans hb') hna hnb
  · by_cases hik : i = k
    · subst hik; exact absurd hkj (hpp j)
    · have h := hI.putAfter k j hkj ((dSet_ne hik).symm.trans hkl)
      by_cases hij : i = j
      · subst hij; exact dSet_self (by omega)
      · exact (dSet_ne hij).trans h
theorem inv_new {S : List Sp} {W0 : World} {n : Nat} {listed : Array Bool} {vs : List Value} {w : World} {i : Nat} {t : TypeId} {z : Array Value} {k : Nat} {q : Array Value → Prop} (hI : Inv S W0 n listed vs w) (hin : i < n) (hln : listed.size = n) (hvn : vs.length = n) (hun : listed.getD i false = false)
    (hS : S[i]? = some (.new t z k q)) (hk : ∀ (j : Nat) t z k q, S[j]? = some (Sp.new t z k q) → k ≠ i) (hput : n ≤ k ∨ S[k]? = some (.put i)) : Inv S W0 n (listed.setIfInBounds i true) (vs.set i (.pointer (some ⟨w.heap.size, 0, none⟩))) (w.alloc (.cells z t)) := by
  have hb : Below w.heap.size w (w.alloc (.cells z t)) := (Below.refl w.heap.size w).alloc (Nat.le_refl _) _
  have hold : ∀ j, j < n → listed.getD j false = true → (match S[j]? with | some s => s.isNew | none => false) = true → ∃ g, vs.getD j undef = .pointer (some ⟨g, 0, none⟩) ∧ g < w.heap.size := fun j hj hjl hn => by
    have h := hI.have_ j hj hjl
    unfold Have at h
    cases hSj : S[j]? with
    | none => rw [hSj] at hn; cases hn
    | some s =>
      rw [hSj] at h hn
      cases s with
      | val p => cases hn
      | put j => cases hn
      | new t z k q => obtain ⟨g, h1, h2⟩ := h; exact ⟨g, h1, h2.2.1⟩
  have hlt : ∀ j, (match S[j]? with | some s => s.isNew | none => false) = true → listed.getD j false = true → j < n := fun j _ hl => by
    rcases Nat.lt_or_ge j n with h | h
    · exact h
    · rw [dOut (by omega)] at hl; cases hl
  refine ⟨hI.below.trans (hb.mono hI.below.size), fun j hj hjl => ?_, fun a b hab ha hb' hna hnb => ?_, fun k' j hkj hkl => ?_⟩
  · by_cases hji : i = j
    · subst hji
      unfold Have
      rw [hS]
      refine ⟨w.heap.size, getD_setSelf (by omega), hI.below.size, by simp, z, by simpa using heap_alloc_new w _, ?_⟩
      have hkf : (listed.setIfInBounds i true).getD k false = false := by
        rw [dSet_ne (Ne.symm (hk i t z k q hS))]
        rcases hput with h | h
        · exact dOut (by omega)
        · cases hc : listed.getD k false with
          | false => rfl
          | true => have := hI.putAfter k i h hc; rw [hun] at this; cases this
      exact ⟨fun h => (by have h' : (listed.setIfInBounds i true).getD k false = true := h; rw [hkf] at h'; cases h'), fun _ => rfl⟩
    · have h := hI.have_ j hj ((dSet_ne hji).symm.trans hjl)
      unfold Have at h ⊢
      rw [getD_setNe hji]
      cases hSj : S[j]? with
      | none => trivial
      | some s =>
        rw [hSj] at h
        cases s with
        | val p => exact h
        | new t z k q =>
          obtain ⟨g, h1, h2⟩ := h
          refine ⟨g, h1, at_below h2 hb fun cs hc => ?_⟩
          have e := dSet_ne (l := listed) (Ne.symm (hk j t z k q hSj))
          exact ⟨fun h => hc.1 (e.symm.trans h), fun h => hc.2 (e.symm.trans h)⟩
        | put j => exact trivial
  · by_cases hia : i = a
    · subst hia
      rw [getD_setSelf (by omega), getD_setNe hab]
      have hbl := (dSet_ne hab).symm.trans hb'
      obtain ⟨g, h1, h2⟩ := hold b (hlt b hnb hbl) hbl hnb
      rw [h1]
      intro he
      injection he with he
      injection he with he
      injection he with he _
      omega
    · by_cases hib : i = b
      · subst hib
        rw [getD_setSelf (by omega), getD_setNe hia]
        have hal := (dSet_ne hia).symm.trans ha
        obtain ⟨g, h1, h2⟩ := hold a (hlt a hna hal) hal hna
        rw [h1]
        intro he
        injection he with he
        injection he with he
        injection he with he _
        omega
      · rw [getD_setNe hia, getD_setNe hib]
        exact hI.apart a b hab ((dSet_ne hia).symm.trans ha) ((dSet_ne hib).symm.trans hb') hna hnb
  · have hik : i ≠ k' := fun h => by subst h; rw [hS] at hkj; cases hkj
    have h := hI.putAfter k' j hkj ((dSet_ne hik).symm.trans hkl)
    by_cases hij : i = j
    · subst hij; exact dSet_self (by omega)
    · exact (dSet_ne hij).trans h
theorem inv_put {S : List Sp} {W0 : World} {n : Nat} {listed : Array Bool} {vs : List Value} {w w' : World} {i j g : Nat} {t : TypeId} {z : Array Value} {q : Array Value → Prop} (hI : Inv S W0 n listed vs w) (hin : i < n) (hln : listed.size = n) (hvn : vs.length = n)
    (hS : S[i]? = some (.put j)) (hSj : S[j]? = some (.new t z i q)) (hk : ∀ (j' : Nat) t z k q, S[j']? = some (Sp.new t z k q) → k = i → j' = j) (hdj : listed.getD j false = true) (hg : vs.getD j undef = .pointer (some ⟨g, 0, none⟩)) (hg0 : W0.heap.size ≤ g) (hf : Filled w w' g t q) : Inv S W0 n (listed.setIfInBounds i true) vs w' := by
  refine ⟨⟨hf.os.trans hI.below.os, hf.tape.trans hI.below.tape, hf.output.trans hI.below.output, by rw [hf.size]; exact hI.below.size, fun b hb => (hf.other b (by omega)).trans (hI.below.block b hb)⟩, fun m hm hml => ?_, fun a b hab ha hb' hna hnb => ?_, fun k' m hkm hkl => ?_⟩
  · by_cases hmi : i = m
    · subst hmi; unfold Have; rw [hS]; trivial
    · have hmd := (dSet_ne hmi).symm.trans hml
      have h := hI.have_ m hm hmd
      unfold Have at h ⊢
      cases hSm : S[m]? with
      | none => trivial
      | some s =>
        rw [hSm] at h
        cases s with
        | val p => exact h
        | put _ => exact trivial
        | new t' z' k' q' =>
          obtain ⟨g', h1, h2, h3, cs, h4, h5⟩ := h
          refine ⟨g', h1, h2, by rw [hf.size]; exact h3, ?_⟩
          by_cases hmj : m = j
          · subst hmj
            rw [hSj] at hSm
            cases hSm
            rw [hg] at h1
            cases h1
            obtain ⟨cs', h6, h7⟩ := hf.here
            exact ⟨cs', h6, fun _ => h7, fun h => (by have h' : (listed.setIfInBounds i true).getD i false = false := h; rw [dSet_self (by omega)] at h'; cases h')⟩
          · have hne : g' ≠ g := by
              rintro rfl
              exact hI.apart m j hmj hmd hdj (by rw [hSm]; rfl) (by rw [hSj]; rfl) (h1.trans hg.symm)
            refine ⟨cs, (hf.other g' hne).trans h4, ?_⟩
            have hki : i ≠ k' := fun h => hmj (hk m t' z' k' q' hSm h.symm)
            have e := dSet_ne (l := listed) hki
            exact ⟨fun h => h5.1 (e.symm.trans h), fun h => h5.2 (e.symm.trans h)⟩
  · have hia : i ≠ a := fun h => by subst h; rw [hS] at hna; cases hna
    have hib : i ≠ b := fun h => by subst h; rw [hS] at hnb; cases hnb
    exact hI.apart a b hab ((dSet_ne hia).symm.trans ha) ((dSet_ne hib).symm.trans hb') hna hnb
  · by_cases hik : i = k'
    · subst hik
      rw [hS] at hkm
      cases hkm
      by_cases hij : i = j
      · subst hij; exact dSet_self (by omega)
      · exact (dSet_ne hij).trans hdj
    · have h := hI.putAfter k' m hkm ((dSet_ne hik).symm.trans hkl)
      by_cases him : i = m
      · subst him; exact dSet_self (by omega)
      · exact (dSet_ne him).trans h
theorem lean_of {S : List Sp} {W0 : World} {n : Nat} {listed : Array Bool} {vs : List Value} {w : World} (hI : Inv S W0 n listed vs w) (hln : listed.size = n)
    (hput : ∀ k j : Nat, S[k]? = some (Sp.put j) → ∃ t z q, S[j]? = some (Sp.new t z k q)) (j : Nat) (hj : listed.getD j false = true) : Lean1 S W0 vs w j := by
  have hlt : ∀ j, listed.getD j false = true → j < n := fun j hl => by
    rcases Nat.lt_or_ge j n with h | h
    · exact h
    · rw [dOut (by omega)] at hl; cases hl
  have h := hI.have_ j (hlt j hj) hj
  unfold Lean1
  unfold Have at h
  cases hSj : S[j]? with
  | none => trivial
  | some s =>
    rw [hSj] at h
    cases s with
    | val p => exact h
    | new t z k q =>
      obtain ⟨g, h1, h2, h3, cs, h4, h5⟩ := h
      refine ⟨g, h1, h2, h3, cs, h4, ?_⟩
      cases hd : listed.getD k false with
      | true => exact .inr (h5.1 hd)
      | false => exact .inl (h5.2 hd)
    | put m =>
      obtain ⟨t, z, q, hSm⟩ := hput j m hSj
      simp only
      rw [hSm]
      have hmd := hI.putAfter j m hSj hj
      have h' := hI.have_ m (hlt m hmd) hmd
      unfold Have at h'
      rw [hSm] at h'
      obtain ⟨g, h1, h2, h3, cs, h4, h5⟩ := h'
      exact ⟨g, h1, h2, h3, cs, h4, h5.1 hj⟩
theorem region_sp {id : Nat} {l : List Oper} {a0 : Act} {w0 : World} (hm : P.follows .mixedOrders = true) (ds : List (Option Tmp)) (vs0 : List Value) (S : List Sp)
    (hds : okSp l.toArray ds S = true) (hvs0 : vs0.length = ds.length) (ha0 : fillO a0 ds vs0 = a0) (h : AllOk P l.toArray Q a0 w0.drew ds S l S) (he : EndsOk Q a0 w0.drew ds S) : (Code.region id l.toArray true).wp P Q a0 w0 := by
  have hat := allOk_at h
  unfold okSp at hds
  simp only [Bool.and_eq_true, beq_iff_eq, decide_eq_true_eq] at hds
  obtain ⟨⟨⟨⟨hsz, hsl⟩, hall⟩, hnd⟩, hcon⟩ := hds
  have hput : ∀ k j : Nat, S[k]? = some (Sp.put j) → k < ds.length ∧ ds[k]? = some none ∧ (∃ t z q, S[j]? = some (Sp.new t z k q)) ∧ (∀ o, l[k]? = some o → ∃ e ∈ o.after, Region.binds .any e = true ∧ e.on = j) := fun k j hk => by
    have hkl : k < ds.length := by
      have := (List.getElem?_eq_some_iff.1 hk).1
      omega
    have h1 := List.all_eq_true.1 hcon k (List.mem_range.2 hkl)
    rw [hk] at h1
    simp only [Bool.and_eq_true, beq_iff_eq] at h1
    refine ⟨hkl, h1.1.1, ?_, fun o ho => ?_⟩
    · have h2 := h1.1.2
      cases hj : S[j]? with
      | none => rw [hj] at h2; cases h2
      | some s =>
        rw [hj] at h2
        cases s with
        | val p => cases h2
        | put m => cases h2
        | new t z k' q =>
          obtain rfl : k' = k := by simpa using h2
          exact ⟨t, z, q, rfl⟩
    · have h2 := h1.2
      rw [show l.toArray[k]? = some o by simpa using ho] at h2
      obtain ⟨e, hem, hh⟩ := Array.any_eq_true'.1 h2
      simp only [Bool.and_eq_true, beq_iff_eq] at hh
      exact ⟨e, hem, hh.1, hh.2⟩
  have hnew : ∀ (j : Nat) t z k q, S[j]? = some (Sp.new t z k q) → ds.length ≤ k ∨ S[k]? = some (Sp.put j) := fun j t z k q hj => by
    have hjl : j < ds.length := by
      have := (List.getElem?_eq_some_iff.1 hj).1
      omega
    have h1 := List.all_eq_true.1 hcon j (List.mem_range.2 hjl)
    rw [hj] at h1
    simp only [Bool.or_eq_true, decide_eq_true_eq] at h1
    rcases h1 with h1 | h1
    · exact .inl h1
    · cases hk : S[k]? with
      | none => rw [hk] at h1; cases h1
      | some s =>
        rw [hk] at h1
        cases s with
        | val p => cases h1
        | new _ _ _ _ => cases h1
        | put m =>
          obtain rfl : m = j := by simpa using h1
          exact .inr rfl
  refine wp_region_any hm ?_
  have hTF : ∀ (listed : Array Bool) (j : Nat), listed.getD j true = true → j < listed.size → listed.getD j false = true := fun listed j h h' => by
    simpa [Array.getD, h'] using h
  refine wpAny_inv (I := fun listed a w => listed.size = l.toArray.size ∧ ∃ vs, vs.length = ds.length ∧ a = fillO a0 ds vs ∧ Inv S w0.drew ds.length listed vs w) ?_ ?_ _ _ _ _ (by simp) ?_ ?_
  · intro listed a w hI i hi
    obtain ⟨hln, vs, hl, rfl, hI⟩ := hI
    obtain ⟨hun, oi, hoi, haft⟩ := mem_ready.1 hi
    have hio : i < l.toArray.size := (Array.getElem?_eq_some_iff.1 hoi).1
    have hid : i < ds.length := by omega
    have hoi' : l[i]? = some oi := by simpa using hoi
    have hunf : listed.getD i false = false := by
      cases hc : listed.getD i false with
      | false => rfl
      | true =>
        have : listed.getD i true = true := by
          have hi' : i < listed.size := by omega
          simpa [Array.getD, hi'] using hc
        rw [hun] at this; cases this
    have h1 := List.all_eq_true.1 hall i (List.mem_range.2 hid)
    rw [hoi] at h1
    simp only [Bool.and_eq_true, beq_iff_eq] at h1
    obtain ⟨hdst, hon⟩ := h1
    have hdi : ds[i]? = some oi.dst := hdst.symm
    have hS : ∃ s, S[i]? = some s := ⟨S[i], List.getElem?_eq_getElem (by omega)⟩
    obtain ⟨s, hSi⟩ := hS
    have hdone : ∀ e ∈ oi.after, Region.binds .any e = true → listed.getD e.on false = true := fun e hem hbd => haft e hem hbd
    have hlean : LeanAll S w0.drew vs w (deps oi) := leanAll_of fun j hj => by
      obtain ⟨e, he1, rfl⟩ := List.mem_map.1 hj
      obtain ⟨he1, he2⟩ := List.mem_filter.1 he1
      exact lean_of hI (by omega) (fun k j hk => (hput k j hk).2.2.1) _ (hdone e (by simpa using he1) he2)
    have hok := hat i oi s hoi' hSi vs hl w hI.below hlean
    have hkne : ∀ s', S[i]? = some s' → (∀ m, s' ≠ Sp.put m) → ∀ (j : Nat) t z k q, S[j]? = some (Sp.new t z k q) → k ≠ i := fun s' hs' hnp j t z k q hj he => by
      subst he
      rcases hnew j t z k q hj with h | h
      · omega
      · rw [hs'] at h
        exact hnp j (Option.some.inj h)
    unfold wpOp
    rw [hoi]
    simp only
    have hs : Still (if Region.wanted oi (yielded l.toArray (fillO a0 ds vs).tmps) = true then oi.wp P (fillO a0 ds vs) w (fun a' w' => (listed.setIfInBounds i true).size = l.toArray.size ∧ ∃ vs, vs.length = ds.length ∧ a' = fillO a0 ds vs ∧ Inv S w0.drew ds.length (listed.setIfInBounds i true) vs w') Q
        else (listed.setIfInBounds i true).size = l.toArray.size ∧ ∃ vs', vs'.length = ds.length ∧ (fillO a0 ds vs).put oi.dst undef = fillO a0 ds vs' ∧ Inv S w0.drew ds.length (listed.setIfInBounds i true) vs' w) := by
      cases s with
      | val p =>
        refine hok (fun a' w' => (listed.setIfInBounds i true).size = l.toArray.size ∧ ∃ vs, vs.length = ds.length ∧ a' = fillO a0 ds vs ∧ Inv S w0.drew ds.length (listed.setIfInBounds i true) vs w') (fun v w' hb hp => ⟨by simpa using hln, vs.set i v, by simpa using hl, fillO_set hnd hl hdi, ?_⟩)
        exact inv_val hI hid (by omega) hl hb (by rw [hSi]; rfl) (hkne _ hSi (fun m h => by cases h)) (fun j h => by rw [hSi] at h; cases h) (fun p' h => by rw [hSi] at h; cases h; exact hp)
      | new t z k q =>
        refine hok (fun a' w' => (listed.setIfInBounds i true).size = l.toArray.size ∧ ∃ vs, vs.length = ds.length ∧ a' = fillO a0 ds vs ∧ Inv S w0.drew ds.length (listed.setIfInBounds i true) vs w') ⟨by simpa using hln, vs.set i _, by simpa using hl, fillO_set hnd hl hdi, ?_⟩
        exact inv_new hI hid (by omega) hl hunf hSi (hkne _ hSi (fun m h => by cases h)) (hnew i t z k q hSi)
      | put j =>
        obtain ⟨hkl, hdk, ⟨t, z, q, hSj⟩, hed⟩ := hput i j hSi
        obtain ⟨e, hem, hbd, hej⟩ := hed oi hoi'
        have hdj := hdone e hem hbd
        rw [hej] at hdj
        have hjd : j < ds.length := by
          rcases Nat.lt_or_ge j ds.length with h | h
          · exact h
          · rw [dOut (by omega)] at hdj; cases hdj
        have hhave := hI.have_ j hjd hdj
        unfold Have at hhave
        rw [hSj] at hhave
        obtain ⟨g, hg, hg0, hg1, cs, hcs, hz⟩ := hhave
        obtain rfl := hz.2 hunf
        simp only at hok
        rw [hSj] at hok
        simp only at hok
        refine hok g hg hcs (fun a' w' => (listed.setIfInBounds i true).size = l.toArray.size ∧ ∃ vs, vs.length = ds.length ∧ a' = fillO a0 ds vs ∧ Inv S w0.drew ds.length (listed.setIfInBounds i true) vs w') (fun w' hf => ⟨by simpa using hln, vs, hl, rfl, ?_⟩)
        refine inv_put hI hid (by omega) hl hSi hSj (fun j' t' z' k' q' hj' hk' => ?_) hdj hg hg0 hf
        rcases hnew j' t' z' k' q' hj' with h | h
        · omega
        · rw [hk', hSi] at h
          cases h
          rfl
    have hs := hs.out
    by_cases hwt : Region.wanted oi (yielded l.toArray (fillO a0 ds vs).tmps) = true
    · rw [if_pos hwt] at hs ⊢
      exact .inl hs
    · rw [if_neg hwt] at hs ⊢
      exact hs
  · intro listed a w hI hr
    obtain ⟨hln, vs, hl, rfl, hI⟩ := hI
    have hdone : ∀ m, m < ds.length → listed.getD m false = true := by
      intro m hm2
      refine Classical.byContradiction fun hn => ?_
      have hn' : listed.getD m false = false := by simpa using hn
      have hleast : ∀ m, m < ds.length → listed.getD m false = false → ∃ i, i < ds.length ∧ listed.getD i false = false ∧ ∀ j, j < i → listed.getD j false = true := by
        intro m
        induction m using Nat.strongRecOn with
        | _ m ih =>
          intro hm hmf
          by_cases hex : ∃ j, j < m ∧ listed.getD j false = false
          · obtain ⟨j, hj, hjf⟩ := hex
            exact ih j hj (by omega) hjf
          · refine ⟨m, hm, hmf, fun j hj => ?_⟩
            cases hb : listed.getD j false with
            | true => rfl
            | false => exact absurd ⟨j, hj, hb⟩ hex
      obtain ⟨i, hid, hif, hil⟩ := hleast _ hm2 hn'
      have hio : i < l.toArray.size := by omega
      have hil' : i < listed.size := by omega
      have hif' : listed.getD i true = false := by simpa [Array.getD, hil'] using hif
      have hmem : i ∈ Region.ready .any l.toArray listed := by
        refine mem_ready.2 ⟨hif', l.toArray[i], Array.getElem?_eq_getElem hio, fun e he hbd => hil e.on ?_⟩
        have h1 := List.all_eq_true.1 hall i (List.mem_range.2 hid)
        rw [Array.getElem?_eq_getElem hio] at h1
        simp only [Bool.and_eq_true] at h1
        have := Array.all_eq_true_iff_forall_mem.1 h1.2 e he
        rw [hbd] at this
        simpa using this
      rw [hr] at hmem
      cases hmem
    refine he vs hl w hI.below (leanAll_of fun j hj => lean_of hI (by omega) (fun k j hk => (hput k j hk).2.2.1) _ (hdone j (by have := (mem_seqO hj).2; omega))) fun i j hij hi hj => ?_
    have hlt : ∀ i, (match S[i]? with | some s => s.isNew | none => false) = true → i < ds.length := fun i hi => by
      rcases Nat.lt_or_ge i ds.length with h | h
      · exact h
      · rw [List.getElem?_eq_none (by omega)] at hi; cases hi
    exact hI.apart i j hij (hdone i (hlt i hi)) (hdone j (hlt j hj)) hi hj
  · unfold left
    exact Nat.le_trans List.countP_le_length (by simp)
  · have hf : ∀ j, (Array.replicate l.toArray.size false).getD j false = false := fun j => by
      rcases Nat.lt_or_ge j l.toArray.size with h | h
      · have h' : j < (Array.replicate l.toArray.size false).size := by simpa using h
        simp only [Array.getD, h', dif_pos]
        exact Array.getElem_replicate ..
      · exact dOut (by simpa using h)
    refine ⟨by simp, vs0, hvs0, ha0.symm, Below.refl _ _, fun j hj hjl => ?_, fun i j _ hi _ _ _ => ?_, fun k j _ hk => ?_⟩
    · rw [hf j] at hjl; cases hjl
    · rw [hf i] at hi; cases hi
    · rw [hf k] at hk; cases hk
end
/-! ### Blocks -/
/-- The variable at block g. -/
structure Blk (w : World) (g : Nat) (t : TypeId) (cs : Array Value) : Prop where out : w.heap[g]? = some (.cells cs t (0, 0))
theorem Blk.lt {w : World} {g : Nat} {t : TypeId} {cs : Array Value} (h : Blk w g t cs) : g < w.heap.size := (Array.getElem?_eq_some_iff.1 h.out).1
theorem Blk.below {w w1 : World} {g : Nat} {t : TypeId} {cs : Array Value} (h : Blk w g t cs) (hb : Below w.heap.size w w1) : Blk w1 g t cs := ⟨(hb.block g h.lt).trans h.out⟩
theorem Blk.drewN {w : World} {g : Nat} {t : TypeId} {cs : Array Value} (h : Blk w g t cs) (n : Nat) : Blk (w.drewN n) g t cs := ⟨h.out⟩
theorem Blk.drew {w : World} {g : Nat} {t : TypeId} {cs : Array Value} (h : Blk w g t cs) : Blk w.drew g t cs := ⟨h.out⟩
theorem Blk.cell {w : World} {g : Nat} {t : TypeId} {cs : Array Value} (h : Blk w g t cs) (i : Nat) : w.cell? ⟨g, i, none⟩ = cs[i]? := by simp [World.cell?, h.out]
theorem Blk.free {w : World} {g : Nat} {t : TypeId} {cs : Array Value} (h : Blk w g t cs) (i : Nat) : w.frozen? ⟨g, i, none⟩ = false := by simp [World.frozen?, h.out]
theorem Blk.one {w : World} {g : Nat} {t : TypeId} {a : Value} (h : Blk w g t #[a]) : w.cell? ⟨g, 0, none⟩ = some a := h.cell 0
theorem Blk.two {w : World} {g : Nat} {t : TypeId} {a b : Value} (h : Blk w g t #[a, b]) : w.cell? ⟨g, 0, none⟩ = some a ∧ w.cell? ⟨g, 1, none⟩ = some b := ⟨h.cell 0, h.cell 1⟩
theorem Blk.three {w : World} {g : Nat} {t : TypeId} {a b c : Value} (h : Blk w g t #[a, b, c]) : w.cell? ⟨g, 0, none⟩ = some a ∧ w.cell? ⟨g, 1, none⟩ = some b ∧ w.cell? ⟨g, 2, none⟩ = some c := ⟨h.cell 0, h.cell 1, h.cell 2⟩
theorem Blk.four {w : World} {g : Nat} {t : TypeId} {a b c d : Value} (h : Blk w g t #[a, b, c, d]) : w.cell? ⟨g, 0, none⟩ = some a ∧ w.cell? ⟨g, 1, none⟩ = some b ∧ w.cell? ⟨g, 2, none⟩ = some c ∧ w.cell? ⟨g, 3, none⟩ = some d := ⟨h.cell 0, h.cell 1, h.cell 2, h.cell 3⟩
theorem Blk.six {w : World} {g : Nat} {t : TypeId} {a b c d e f : Value} (h : Blk w g t #[a, b, c, d, e, f]) : w.cell? ⟨g, 0, none⟩ = some a ∧ w.cell? ⟨g, 1, none⟩ = some b ∧ w.cell? ⟨g, 2, none⟩ = some c ∧ w.cell? ⟨g, 3, none⟩ = some d ∧ w.cell? ⟨g, 4, none⟩ = some e ∧ w.cell? ⟨g, 5, none⟩ = some f :=
  ⟨h.cell 0, h.cell 1, h.cell 2, h.cell 3, h.cell 4, h.cell 5⟩
theorem Blk.new (w : World) (t : TypeId) (cs : Array Value) : Blk (w.alloc (.cells cs t)) w.heap.size t cs := ⟨heap_alloc_new w _⟩
theorem Blk.newAt {w : World} {g : Nat} (t : TypeId) (cs : Array Value) (h : g = w.heap.size) : Blk (w.alloc (.cells cs t)) g t cs := by subst h; exact Blk.new w t cs
theorem Blk.alloc {w : World} {g : Nat} {t : TypeId} {cs : Array Value} (h : Blk w g t cs) (o : Obj) : Blk (w.alloc o) g t cs := h.below ((Below.refl w.heap.size w).alloc (Nat.le_refl _) o)
theorem Blk.far {w : World} {g b i : Nat} {t : TypeId} {cs : Array Value} (h : Blk w g t cs) (v : Value) (hne : g ≠ b) : Blk (w.setCell ⟨b, i, none⟩ v) g t cs := ⟨(Below.heap_setCell w ⟨b, i, none⟩ v g hne).trans h.out⟩
theorem Blk.set {w : World} {g : Nat} {t : TypeId} {cs : Array Value} (h : Blk w g t cs) (i : Nat) (v : Value) : Blk (w.setCell ⟨g, i, none⟩ v) g t (cs.setIfInBounds i v) := ⟨by simp [World.setCell, Array.getElem?_modify, h.out]⟩
theorem setCell_size (w : World) (p : Addr) (v : Value) : (w.setCell p v).heap.size = w.heap.size := by simp [World.setCell]
/-- Several cells of one block set, one after another. -/
def setAll (w : World) (g : Nat) : Nat → List Value → World
  | _, [] => w
  | i, v :: r => setAll (w.setCell ⟨g, i, none⟩ v) g (i + 1) r
theorem setAll_same (g : Nat) : ∀ (l : List Value) (i : Nat) (w : World), (setAll w g i l).os = w.os ∧ (setAll w g i l).tape = w.tape ∧ (setAll w g i l).output = w.output ∧ (setAll w g i l).heap.size = w.heap.size ∧ ∀ b, b ≠ g → (setAll w g i l).heap[b]? = w.heap[b]? := by
  intro l
  induction l with
  | nil => intro i w; exact ⟨rfl, rfl, rfl, rfl, fun _ _ => rfl⟩
  | cons v r ih =>
    intro i w
    obtain ⟨h1, h2, h3, h4, h5⟩ := ih (i + 1) (w.setCell ⟨g, i, none⟩ v)
    exact ⟨h1, h2, h3, h4.trans (setCell_size _ _ _), fun b hb => (h5 b hb).trans (Below.heap_setCell w ⟨g, i, none⟩ v b hb)⟩
theorem filled2 {w : World} {g : Nat} {t : TypeId} {a b x y : Value} {q : Array Value → Prop} (h : w.heap[g]? = some (.cells #[a, b] t (0, 0))) (hq : q #[x, y]) : Filled w ((w.setCell ⟨g, 0, none⟩ x).setCell ⟨g, 1, none⟩ y) g t q := by
  obtain ⟨h1, h2, h3, h4, h5⟩ := setAll_same g [x, y] 0 w
  exact ⟨h1, h2, h3, h4, h5, #[x, y], (((Blk.mk h).set 0 x).set 1 y).out, hq⟩
theorem filled3 {w : World} {g : Nat} {t : TypeId} {a b c x y z : Value} {q : Array Value → Prop} (h : w.heap[g]? = some (.cells #[a, b, c] t (0, 0))) (hq : q #[x, y, z]) : Filled w (((w.setCell ⟨g, 0, none⟩ x).setCell ⟨g, 1, none⟩ y).setCell ⟨g, 2, none⟩ z) g t q := by
  obtain ⟨h1, h2, h3, h4, h5⟩ := setAll_same g [x, y, z] 0 w
  exact ⟨h1, h2, h3, h4, h5, #[x, y, z], ((((Blk.mk h).set 0 x).set 1 y).set 2 z).out, hq⟩
theorem Filled.blk {w w' : World} {g : Nat} {t : TypeId} {cs : Array Value} (h : Filled w w' g t (fun c => c = cs)) : Blk w' g t cs := by
  obtain ⟨c, h1, rfl⟩ := h.here
  exact ⟨h1⟩
/-- What was filled is new: what was there stands. -/
theorem Filled.below {w w' : World} {g B : Nat} {t : TypeId} {q : Array Value → Prop} (h : Filled w w' g t q) (hg : B ≤ g) : Below B w w' := ⟨h.os, h.tape, h.output, by rw [h.size]; exact Nat.le_refl _, fun k hk => h.other k (by omega)⟩
theorem filled1 {w : World} {g : Nat} {t : TypeId} {a x : Value} {q : Array Value → Prop} (h : w.heap[g]? = some (.cells #[a] t (0, 0))) (hq : q #[x]) : Filled w (w.setCell ⟨g, 0, none⟩ x) g t q := by
  obtain ⟨h1, h2, h3, h4, h5⟩ := setAll_same g [x] 0 w
  exact ⟨h1, h2, h3, h4, h5, #[x], ((Blk.mk h).set 0 x).out, hq⟩
theorem filled6 {w : World} {g : Nat} {t : TypeId} {a b c d e f x y z u v s : Value} {q : Array Value → Prop} (h : w.heap[g]? = some (.cells #[a, b, c, d, e, f] t (0, 0))) (hq : q #[x, y, z, u, v, s]) :
    Filled w ((((((w.setCell ⟨g, 0, none⟩ x).setCell ⟨g, 1, none⟩ y).setCell ⟨g, 2, none⟩ z).setCell ⟨g, 3, none⟩ u).setCell ⟨g, 4, none⟩ v).setCell ⟨g, 5, none⟩ s) g t q := by
  obtain ⟨h1, h2, h3, h4, h5⟩ := setAll_same g [x, y, z, u, v, s] 0 w
  exact ⟨h1, h2, h3, h4, h5, #[x, y, z, u, v, s], (((((((Blk.mk h).set 0 x).set 1 y).set 2 z).set 3 u).set 4 v).set 5 s).out, hq⟩
/-! ### Filling, step by step -/
theorem fs (a : Act) (d : Tmp) (ds : List (Option Tmp)) (v : Value) (vs : List Value) : fillO a (some d :: ds) (v :: vs) = fillO (a.put (some d) v) ds vs := rfl
theorem fo (a : Act) (ds : List (Option Tmp)) (v : Value) (vs : List Value) : fillO a (none :: ds) (v :: vs) = fillO a ds vs := rfl
theorem fz (a : Act) (vs : List Value) : fillO a [] vs = a := rfl
theorem s1 {α : Type} (l : List α) (i : Nat) (a : α) : l.toArray.setIfInBounds i a = (l.set i a).toArray := List.setIfInBounds_toArray l i a
theorem s2 {α : Type} (l : List α) (a b : α) : (b :: l).set 0 a = a :: l := rfl
theorem s3 {α : Type} (l : List α) (a b : α) (n : Nat) : (b :: l).set (n + 1) a = b :: l.set n a := rfl
/-! ### More lengths -/
theorem len27 {vs : List Value} (h : vs.length = 27) : ∃ v0 v1 v2 v3 v4 v5 v6 v7 v8 v9 v10 v11 v12 v13 v14 v15 v16 v17 v18 v19 v20 v21 v22 v23 v24 v25 v26, vs = [v0, v1, v2, v3, v4, v5, v6, v7, v8, v9, v10, v11, v12, v13, v14, v15, v16, v17, v18, v19, v20, v21, v22, v23, v24, v25, v26] := by
  match vs, h with
  | v :: r, h =>
    obtain ⟨v0, v1, v2, v3, v4, v5, v6, v7, v8, v9, v10, v11, v12, v13, v14, v15, v16, v17, v18, v19, v20, v21, v22, v23, v24, v25, rfl⟩ := len26 (vs := r) (by simpa using h)
    exact ⟨v, v0, v1, v2, v3, v4, v5, v6, v7, v8, v9, v10, v11, v12, v13, v14, v15, v16, v17, v18, v19, v20, v21, v22, v23, v24, v25, rfl⟩
theorem len28 {vs : List Value} (h : vs.length = 28) : ∃ v0 v1 v2 v3 v4 v5 v6 v7 v8 v9 v10 v11 v12 v13 v14 v15 v16 v17 v18 v19 v20 v21 v22 v23 v24 v25 v26 v27, vs = [v0, v1, v2, v3, v4, v5, v6, v7, v8, v9, v10, v11, v12, v13, v14, v15, v16, v17, v18, v19, v20, v21, v22, v23, v24, v25, v26, v27] := by
  match vs, h with
  | v :: r, h =>
    obtain ⟨v0, v1, v2, v3, v4, v5, v6, v7, v8, v9, v10, v11, v12, v13, v14, v15, v16, v17, v18, v19, v20, v21, v22, v23, v24, v25, v26, rfl⟩ := len27 (vs := r) (by simpa using h)
    exact ⟨v, v0, v1, v2, v3, v4, v5, v6, v7, v8, v9, v10, v11, v12, v13, v14, v15, v16, v17, v18, v19, v20, v21, v22, v23, v24, v25, v26, rfl⟩
theorem len29 {vs : List Value} (h : vs.length = 29) : ∃ v0 v1 v2 v3 v4 v5 v6 v7 v8 v9 v10 v11 v12 v13 v14 v15 v16 v17 v18 v19 v20 v21 v22 v23 v24 v25 v26 v27 v28, vs = [v0, v1, v2, v3, v4, v5, v6, v7, v8, v9, v10, v11, v12, v13, v14, v15, v16, v17, v18, v19, v20, v21, v22, v23, v24, v25, v26, v27, v28] := by
  match vs, h with
  | v :: r, h =>
    obtain ⟨v0, v1, v2, v3, v4, v5, v6, v7, v8, v9, v10, v11, v12, v13, v14, v15, v16, v17, v18, v19, v20, v21, v22, v23, v24, v25, v26, v27, rfl⟩ := len28 (vs := r) (by simpa using h)
    exact ⟨v, v0, v1, v2, v3, v4, v5, v6, v7, v8, v9, v10, v11, v12, v13, v14, v15, v16, v17, v18, v19, v20, v21, v22, v23, v24, v25, v26, v27, rfl⟩
theorem len30 {vs : List Value} (h : vs.length = 30) : ∃ v0 v1 v2 v3 v4 v5 v6 v7 v8 v9 v10 v11 v12 v13 v14 v15 v16 v17 v18 v19 v20 v21 v22 v23 v24 v25 v26 v27 v28 v29, vs = [v0, v1, v2, v3, v4, v5, v6, v7, v8, v9, v10, v11, v12, v13, v14, v15, v16, v17, v18, v19, v20, v21, v22, v23, v24, v25, v26, v27, v28, v29] := by
  match vs, h with
  | v :: r, h =>
    obtain ⟨v0, v1, v2, v3, v4, v5, v6, v7, v8, v9, v10, v11, v12, v13, v14, v15, v16, v17, v18, v19, v20, v21, v22, v23, v24, v25, v26, v27, v28, rfl⟩ := len29 (vs := r) (by simpa using h)
    exact ⟨v, v0, v1, v2, v3, v4, v5, v6, v7, v8, v9, v10, v11, v12, v13, v14, v15, v16, v17, v18, v19, v20, v21, v22, v23, v24, v25, v26, v27, v28, rfl⟩
theorem len31 {vs : List Value} (h : vs.length = 31) : ∃ v0 v1 v2 v3 v4 v5 v6 v7 v8 v9 v10 v11 v12 v13 v14 v15 v16 v17 v18 v19 v20 v21 v22 v23 v24 v25 v26 v27 v28 v29 v30, vs = [v0, v1, v2, v3, v4, v5, v6, v7, v8, v9, v10, v11, v12, v13, v14, v15, v16, v17, v18, v19, v20, v21, v22, v23, v24, v25, v26, v27, v28, v29, v30] := by
  match vs, h with
  | v :: r, h =>
    obtain ⟨v0, v1, v2, v3, v4, v5, v6, v7, v8, v9, v10, v11, v12, v13, v14, v15, v16, v17, v18, v19, v20, v21, v22, v23, v24, v25, v26, v27, v28, v29, rfl⟩ := len30 (vs := r) (by simpa using h)
    exact ⟨v, v0, v1, v2, v3, v4, v5, v6, v7, v8, v9, v10, v11, v12, v13, v14, v15, v16, v17, v18, v19, v20, v21, v22, v23, v24, v25, v26, v27, v28, v29, rfl⟩
theorem len32 {vs : List Value} (h : vs.length = 32) : ∃ v0 v1 v2 v3 v4 v5 v6 v7 v8 v9 v10 v11 v12 v13 v14 v15 v16 v17 v18 v19 v20 v21 v22 v23 v24 v25 v26 v27 v28 v29 v30 v31, vs = [v0, v1, v2, v3, v4, v5, v6, v7, v8, v9, v10, v11, v12, v13, v14, v15, v16, v17, v18, v19, v20, v21, v22, v23, v24, v25, v26, v27, v28, v29, v30, v31] := by
  match vs, h with
  | v :: r, h =>
    obtain ⟨v0, v1, v2, v3, v4, v5, v6, v7, v8, v9, v10, v11, v12, v13, v14, v15, v16, v17, v18, v19, v20, v21, v22, v23, v24, v25, v26, v27, v28, v29, v30, rfl⟩ := len31 (vs := r) (by simpa using h)
    exact ⟨v, v0, v1, v2, v3, v4, v5, v6, v7, v8, v9, v10, v11, v12, v13, v14, v15, v16, v17, v18, v19, v20, v21, v22, v23, v24, v25, v26, v27, v28, v29, v30, rfl⟩
end Go.Proofs.Ytphfmcdkldcmiaa.Rs
/- A region that draws its order, as in XRs, but what an operation yields is told together with the world. -/
namespace Go.Proofs.Ytphfmcdkldcmiaa.Rt
open Go Go.RowKit Go.Proofs.Ytphfmcdkldcmiaa.Rg
open Go.Proofs.Ytphfmcdkldcmiaa.Rs (fillO step1 fillO_set At Filled dSet_self dSet_ne dOut getD_setSelf getD_setNe Blk)
set_option linter.unusedVariables false
/-- What an operation does: it yields a value of which p; it makes a variable (type t, as z is), which operation k fills so that q; it fills the variable of operation j. -/
inductive Sp where
  | val (p : Value → World → Prop)
  | new (t : TypeId) (z : Array Value) (k : Nat) (q : Array Value → Prop)
  | put (j : Nat)
def Sp.isNew : Sp → Bool
  | .new .. => true
  | _ => false
/-- Only blocks of M (and new ones) differ. -/
structure Mv (M : Nat → Prop) (w w' : World) : Prop where
  os : w'.os = w.os
  tape : w'.tape = w.tape
  output : w'.output = w.output
  size : w.heap.size ≤ w'.heap.size
  block : ∀ k, k < w.heap.size → ¬ M k → w'.heap[k]? = w.heap[k]?
section
variable {M : Nat → Prop} {w w1 w2 : World}
theorem Mv.refl (M : Nat → Prop) (w : World) : Mv M w w := ⟨rfl, rfl, rfl, Nat.le_refl _, fun _ _ _ => rfl⟩
theorem Mv.trans (h : Mv M w w1) (k : Mv M w1 w2) : Mv M w w2 := ⟨k.os.trans h.os, k.tape.trans h.tape, k.output.trans h.output, Nat.le_trans h.size k.size, fun b hb hn => (k.block b (Nat.lt_of_lt_of_le hb h.size) hn).trans (h.block b hb hn)⟩
theorem Mv.of (h : Below w.heap.size w w1) : Mv M w w1 := ⟨h.os, h.tape, h.output, h.size, fun b hb _ => h.block b hb⟩
theorem Mv.below (h : Mv M w w1) (hM : ∀ k, M k → w.heap.size ≤ k) : Below w.heap.size w w1 := ⟨h.os, h.tape, h.output, h.size, fun b hb => h.block b hb (fun hm => by have := hM b hm; omega)⟩
theorem Mv.belowB {B : Nat} (h : Mv M w w1) (hB : B ≤ w.heap.size) (hM : ∀ k, M k → B ≤ k) : Below B w w1 := ⟨h.os, h.tape, h.output, h.size, fun b hb => h.block b (by omega) (fun hm => by have := hM b hm; omega)⟩
theorem Mv.mono {M' : Nat → Prop} (h : Mv M w w1) (hM : ∀ k, M k → M' k) : Mv M' w w1 := ⟨h.os, h.tape, h.output, h.size, fun b hb hn => h.block b hb (fun hm => hn (hM b hm))⟩
theorem Mv.kept (h : Mv M w w1) : w.heap.size ≤ w1.heap.size ∧ ∀ i, i < w.heap.size → ¬ M i → w1.heap[i]? = w.heap[i]? := ⟨h.size, h.block⟩
theorem Mv.drewN (h : Mv M w w1) (n : Nat) : Mv M w (w1.drewN n) := ⟨h.os, h.tape, h.output, h.size, h.block⟩
theorem Mv.alloc (h : Mv M w w1) (o : Obj) : Mv M w (w1.alloc o) := h.trans (Mv.of ((Below.refl w1.heap.size w1).alloc (Nat.le_refl _) o))
theorem Mv.set (h : Mv M w w1) {g i : Nat} (hg : M g ∨ w.heap.size ≤ g) (v : Value) : Mv M w (w1.setCell ⟨g, i, none⟩ v) := ⟨h.os, h.tape, h.output, Nat.le_trans h.size (Nat.le_of_eq (Rs.setCell_size _ _ _).symm), fun b hb hn => (Below.heap_setCell w1 ⟨g, i, none⟩ v b (fun e => by
  subst e
  rcases hg with hg | hg
  · exact hn hg
  · exact absurd hb (Nat.not_lt.2 hg))).trans (h.block b hb hn)⟩
theorem Mv.cell (h : Mv M w w1) {p : Addr} (hp : p.block < w.heap.size) (hn : ¬ M p.block) : w1.cell? p = w.cell? p := World.cell?_of_block (w := w) (h.block p.block hp hn)
theorem Mv.cellv (h : Mv M w w1) {p : Addr} {v : Value} (hc : w.cell? p = some v) (hn : ¬ M p.block) : w1.cell? p = some v := (h.cell (World.block_lt_of_cell? w _ hc) hn).trans hc
theorem Mv.blk (h : Mv M w w1) {g : Nat} {t : TypeId} {cs : Array Value} (hb : Blk w g t cs) (hn : ¬ M g) : Blk w1 g t cs := ⟨(h.block g hb.lt hn).trans hb.out⟩
end
/-- A later world: all blocks kept but those of M; or one of the variables made (of these types) filled. -/
inductive Near (M : Nat → Prop) (ts : List TypeId) (B : Nat) (w w' : World) : Prop where
  | mv (h : Mv M w w')
  | fill (g : Nat) (t : TypeId) (z : Array Value) (q : Array Value → Prop) (ht : t ∈ ts) (hg : B ≤ g) (hz : w.heap[g]? = some (.cells z t (0, 0))) (h : Filled w w' g t q)
def StabAll (M : Nat → Prop) (ts : List TypeId) (B : Nat) : List Sp → Prop
  | [] => True
  | .val p :: r => (∀ v w w', p v w → Near M ts B w w' → p v w') ∧ StabAll M ts B r
  | _ :: r => StabAll M ts B r
theorem stab_at {M : Nat → Prop} {ts : List TypeId} {B : Nat} : ∀ {S : List Sp}, StabAll M ts B S → ∀ {i : Nat} {p : Value → World → Prop}, S[i]? = some (Sp.val p) → ∀ {v w w'}, p v w → Near M ts B w w' → p v w' := by
  intro S
  induction S with
  | nil => intro _ i p h; simp at h
  | cons s r ih =>
    intro hS i p h
    cases i with
    | zero =>
      obtain rfl : s = .val p := by simpa using h
      exact fun hv hn => hS.1 _ _ _ hv hn
    | succ i =>
      have h' : r[i]? = some (Sp.val p) := by simpa using h
      cases s with
      | val _ => exact fun {_ _ _} hv hn => ih hS.2 h' hv hn
      | new _ _ _ _ => exact fun {_ _ _} hv hn => ih hS h' hv hn
      | put _ => exact fun {_ _ _} hv hn => ih hS h' hv hn
def Have (S : List Sp) (W0 : World) (D : Nat → Bool) (vs : List Value) (w : World) (i : Nat) : Prop :=
  match S[i]? with
  | some (.val p) => p (vs.getD i undef) w
  | some (.new t z k q) => ∃ g, vs.getD i undef = .pointer (some ⟨g, 0, none⟩) ∧ At W0 w g t (fun cs => (D k = true → q cs) ∧ (D k = false → cs = z))
  | _ => True
/-- What an operation may lean on of one that it waits for. -/
def Lean1 (S : List Sp) (W0 : World) (vs : List Value) (w : World) (i : Nat) : Prop :=
  match S[i]? with
  | some (.val p) => p (vs.getD i undef) w
  | some (.new t z k q) => ∃ g, vs.getD i undef = .pointer (some ⟨g, 0, none⟩) ∧ At W0 w g t (fun cs => cs = z ∨ q cs)
  | some (.put j) => match S[j]? with
    | some (.new t z k q) => ∃ g, vs.getD j undef = .pointer (some ⟨g, 0, none⟩) ∧ At W0 w g t q
    | _ => True
  | none => True
def LeanAll (S : List Sp) (W0 : World) (vs : List Value) (w : World) : List Nat → Prop
  | [] => True
  | j :: js => Lean1 S W0 vs w j ∧ LeanAll S W0 vs w js
theorem leanAll_of {S : List Sp} {W0 : World} {vs : List Value} {w : World} {l : List Nat} (h : ∀ j ∈ l, Lean1 S W0 vs w j) : LeanAll S W0 vs w l := by
  induction l with
  | nil => trivial
  | cons j js ih => exact ⟨h j List.mem_cons_self, ih (fun k hk => h k (List.mem_cons_of_mem _ hk))⟩
section
variable {P : Program} {ops : Array Oper} {Q : Exit → Act → World → Prop}
def OpOk (M : Nat → Prop) (P : Program) (ops : Array Oper) (Q : Exit → Act → World → Prop) (a0 : Act) (W0 : World) (ds : List (Option Tmp)) (S : List Sp) (o : Oper) (s : Sp) : Prop :=
  ∀ vs : List Value, vs.length = ds.length → ∀ w, Mv M W0 w → LeanAll S W0 vs w (deps o) →
    match s with
    | .val p => ∀ K : Act → World → Prop, (∀ v w', Mv M w w' → p v w' → K ((fillO a0 ds vs).put o.dst v) w') → Still (if Region.wanted o (yielded ops (fillO a0 ds vs).tmps) = true then o.wp P (fillO a0 ds vs) w K Q else K ((fillO a0 ds vs).put o.dst undef) w)
    | .new t z k q => ∀ K : Act → World → Prop, K ((fillO a0 ds vs).put o.dst (.pointer (some ⟨w.heap.size, 0, none⟩))) (w.alloc (.cells z t)) → Still (if Region.wanted o (yielded ops (fillO a0 ds vs).tmps) = true then o.wp P (fillO a0 ds vs) w K Q else K ((fillO a0 ds vs).put o.dst undef) w)
    | .put j => match S[j]? with
      | some (.new t z k q) => ∀ g, vs.getD j undef = .pointer (some ⟨g, 0, none⟩) → w.heap[g]? = some (.cells z t (0, 0)) → ∀ K : Act → World → Prop, (∀ w', Filled w w' g t q → K (fillO a0 ds vs) w') → Still (if Region.wanted o (yielded ops (fillO a0 ds vs).tmps) = true then o.wp P (fillO a0 ds vs) w K Q else K ((fillO a0 ds vs).put o.dst undef) w)
      | _ => False
def AllOk (M : Nat → Prop) (P : Program) (ops : Array Oper) (Q : Exit → Act → World → Prop) (a0 : Act) (W0 : World) (ds : List (Option Tmp)) (S : List Sp) : List Oper → List Sp → Prop
  | o :: r, s :: r' => OpOk M P ops Q a0 W0 ds S o s ∧ AllOk M P ops Q a0 W0 ds S r r'
  | [], [] => True
  | _, _ => False
theorem allOk_at {M : Nat → Prop} {a0 : Act} {W0 : World} {ds : List (Option Tmp)} {S : List Sp} : ∀ {l : List Oper} {l' : List Sp}, AllOk M P ops Q a0 W0 ds S l l' → ∀ (i : Nat) (o : Oper) (s : Sp), l[i]? = some o → l'[i]? = some s → OpOk M P ops Q a0 W0 ds S o s := by
  intro l
  induction l with
  | nil => intro l' _ i o s h; simp at h
  | cons o0 r ih =>
    intro l' h i o s ho hs
    cases l' with
    | nil => exact h.elim
    | cons s0 r' =>
      cases i with
      | zero =>
        obtain rfl : o0 = o := by simpa using ho
        obtain rfl : s0 = s := by simpa using hs
        exact h.1
      | succ i => exact ih h.2 i o s (by simpa using ho) (by simpa using hs)
/-- The operations wait for earlier ones alone, each slot is filled once, and made variables and fillings belong together. -/
def okSp (ts : List TypeId) (ops : Array Oper) (ds : List (Option Tmp)) (S : List Sp) : Bool :=
  (ops.size == ds.length) && (S.length == ds.length) && (List.range ds.length).all (fun i => match ops[i]? with | some o => (some o.dst == ds[i]?) && o.after.all (fun e => !(Region.binds .any e) || decide (e.on < i)) | none => false) &&
  decide (ds.filterMap id).Nodup &&
  (List.range ds.length).all (fun i => match S[i]? with
    | some (.new t z k q) => ts.contains t && (decide (ds.length ≤ k) || (match S[k]? with | some (.put j) => j == i | _ => false))
    | some (.put j) => (ds[i]? == some none) && (match S[j]? with | some (.new t z k q) => k == i | _ => false) && (match ops[i]? with | some o => o.after.any (fun e => Region.binds .any e && e.on == j) | none => false)
    | _ => true)
def Apart (S : List Sp) (vs : List Value) : Prop := ∀ i j, i ≠ j → (match S[i]? with | some s => s.isNew | none => false) = true → (match S[j]? with | some s => s.isNew | none => false) = true → vs.getD i undef ≠ vs.getD j undef
def EndsOk (M : Nat → Prop) (Q : Exit → Act → World → Prop) (a0 : Act) (W0 : World) (ds : List (Option Tmp)) (S : List Sp) : Prop :=
  ∀ vs : List Value, vs.length = ds.length → ∀ w, Mv M W0 w → LeanAll S W0 vs w (seqO 0 ds) → Apart S vs → Q .normal (fillO a0 ds vs) w
where seqO : Nat → List (Option Tmp) → List Nat
  | _, [] => []
  | k, _ :: r => k :: seqO (k + 1) r
theorem mem_seqO : ∀ {ds : List (Option Tmp)} {k j : Nat}, j ∈ EndsOk.seqO k ds → k ≤ j ∧ j < k + ds.length := by
  intro ds
  induction ds with
  | nil => intro k j h; cases h
  | cons d r ih =>
    intro k j h
    rcases List.mem_cons.1 h with rfl | h
    · simp
    · have := ih h
      simp only [List.length_cons]
      omega
structure Inv (M : Nat → Prop) (S : List Sp) (W0 : World) (n : Nat) (listed : Array Bool) (vs : List Value) (w : World) : Prop where
  below : Mv M W0 w
  have_ : ∀ j, j < n → listed.getD j false = true → Have S W0 (fun k => listed.getD k false) vs w j
  apart : ∀ i j, i ≠ j → listed.getD i false = true → listed.getD j false = true → (match S[i]? with | some s => s.isNew | none => false) = true → (match S[j]? with | some s => s.isNew | none => false) = true → vs.getD i undef ≠ vs.getD j undef
  putAfter : ∀ k j : Nat, S[k]? = some (Sp.put j) → listed.getD k false = true → listed.getD j false = true
theorem at_mv {M : Nat → Prop} {W0 w w' : World} {g : Nat} {t : TypeId} {p p' : Array Value → Prop} (h : At W0 w g t p) (hb : Mv M w w') (hM : ∀ k, M k → k < W0.heap.size) (hp : ∀ cs, p cs → p' cs) : At W0 w' g t p' := by
  obtain ⟨h1, h2, cs, h3, h4⟩ := h
  exact ⟨h1, Nat.lt_of_lt_of_le h2 hb.size, cs, (hb.block g h2 (fun hm => by have := hM g hm; omega)).trans h3, hp _ h4⟩
/-- What holds after a step that keeps all blocks. -/
theorem inv_val {M : Nat → Prop} {S : List Sp} {W0 : World} {n : Nat} {listed : Array Bool} {vs : List Value} {w w' : World} {i : Nat} {v : Value} (hI : Inv M S W0 n listed vs w) (hin : i < n) (hln : listed.size = n) (hvn : vs.length = n)
    (hb : Mv M w w') (hM : ∀ k, M k → k < W0.heap.size) (hS : (match S[i]? with | some s => s.isNew | none => false) = false) (hk : ∀ (j : Nat) t z k q, S[j]? = some (Sp.new t z k q) → k ≠ i) (hpp : ∀ j, S[i]? ≠ some (Sp.put j)) (hp : ∀ p, S[i]? = some (Sp.val p) → p v w') {ts : List TypeId} {B : Nat} (hst : StabAll M ts B S) : Inv M S W0 n (listed.setIfInBounds i true) (vs.set i v) w' := by
  refine ⟨hI.below.trans hb, fun j hj hjl => ?_, fun a b hab ha hb' hna hnb => ?_, fun k j hkj hkl => ?_⟩
  · by_cases hji : i = j
    · subst hji
      unfold Have
      cases hSi : S[i]? with
      | none => trivial
      | some s =>
        cases s with
        | val p => simp only; rw [getD_setSelf (by omega)]; exact hp p hSi
        | new t z k q => rw [hSi] at hS; cases hS
        | put j => exact trivial
    · have h := hI.have_ j hj ((dSet_ne hji).symm.trans hjl)
      unfold Have at h ⊢
      rw [getD_setNe hji]
      cases hSj : S[j]? with
      | none => trivial
      | some s =>
        rw [hSj] at h
        cases s with
        | val p => exact stab_at hst hSj h (.mv hb)
        | new t z k q =>
          obtain ⟨g, h1, h2⟩ := h
          refine ⟨g, h1, at_mv h2 hb hM fun cs hc => ?_⟩
          have e := dSet_ne (l := listed) (Ne.symm (hk j t z k q hSj))
          exact ⟨fun h => hc.1 (e.symm.trans h), fun h => hc.2 (e.symm.trans h)⟩
        | put j => exact trivial
  · have hia : i ≠ a := fun h => by subst h; rw [hS] at hna; cases hna
    have hib : i ≠ b := fun h => by subst h; rw [hS] at hnb; cases hnb
    rw [getD_setNe hia, getD_setNe hib]
    exact hI.apart a b hab ((dSet_ne hia).symm.trans ha) ((dSet_ne hib).symm.trans hb') hna hnb
  · by_cases hik : i = k
    · subst hik; exact absurd hkj (hpp j)
    · have h := hI.putAfter k j hkj ((dSet_ne hik).symm.trans hkl)
      by_cases hij : i = j
      · subst hij; exact dSet_self (by omega)
      · exact (dSet_ne hij).trans h
theorem inv_new {M : Nat → Prop} {S : List Sp} {W0 : World} {n : Nat} {listed : Array Bool} {vs : List Value} {w : World} {i : Nat} {t : TypeId} {z : Array Value} {k : Nat} {q : Array Value → Prop} (hI : Inv M S W0 n listed vs w) (hin : i < n) (hln : listed.size = n) (hvn : vs.length = n) (hun : listed.getD i false = false)
    (hS : S[i]? = some (.new t z k q)) (hk : ∀ (j : Nat) t z k q, S[j]? = some (Sp.new t z k q) → k ≠ i) (hput : n ≤ k ∨ S[k]? = some (.put i)) {ts : List TypeId} {B : Nat} (hst : StabAll M ts B S) (hM : ∀ k, M k → k < W0.heap.size) : Inv M S W0 n (listed.setIfInBounds i true) (vs.set i (.pointer (some ⟨w.heap.size, 0, none⟩))) (w.alloc (.cells z t)) := by
  have hb : Mv M w (w.alloc (.cells z t)) := (Mv.refl M w).alloc _
  have hold : ∀ j, j < n → listed.getD j false = true → (match S[j]? with | some s => s.isNew | none => false) = true → ∃ g, vs.getD j undef = .pointer (some ⟨g, 0, none⟩) ∧ g < w.heap.size := fun j hj hjl hn => by
    have h := hI.have_ j hj hjl
    unfold Have at h
    cases hSj : S[j]? with
    | none => rw [hSj] at hn; cases hn
    | some s =>
      rw [hSj] at h hn
      cases s with
      | val p => cases hn
      | put j => cases hn
      | new t z k q => obtain ⟨g, h1, h2⟩ := h; exact ⟨g, h1, h2.2.1⟩
  have hlt : ∀ j, (match S[j]? with | some s => s.isNew | none => false) = true → listed.getD j false = true → j < n := fun j _ hl => by
    rcases Nat.lt_or_ge j n with h | h
    · exact h
    · rw [dOut (by omega)] at hl; cases hl
  refine ⟨hI.below.trans hb, fun j hj hjl => ?_, fun a b hab ha hb' hna hnb => ?_, fun k' j hkj hkl => ?_⟩
  · by_cases hji : i = j
    · subst hji
      unfold Have
      rw [hS]
      refine ⟨w.heap.size, getD_setSelf (by omega), hI.below.size, by simp, z, by simpa using heap_alloc_new w _, ?_⟩
      have hkf : (listed.setIfInBounds i true).getD k false = false := by
        rw [dSet_ne (Ne.symm (hk i t z k q hS))]
        rcases hput with h | h
        · exact dOut (by omega)
        · cases hc : listed.getD k false with
          | false => rfl
          | true => have := hI.putAfter k i h hc; rw [hun] at this; cases this
      exact ⟨fun h => (by have h' : (listed.setIfInBounds i true).getD k false = true := h; rw [hkf] at h'; cases h'), fun _ => rfl⟩
    · have h := hI.have_ j hj ((dSet_ne hji).symm.trans hjl)
      unfold Have at h ⊢
      rw [getD_setNe hji]
      cases hSj : S[j]? with
      | none => trivial
      | some s =>
        rw [hSj] at h
        cases s with
        | val p => exact stab_at hst hSj h (.mv hb)
        | new t z k q =>
          obtain ⟨g, h1, h2⟩ := h
          refine ⟨g, h1, at_mv h2 hb hM fun cs hc => ?_⟩
          have e := dSet_ne (l := listed) (Ne.symm (hk j t z k q hSj))
          exact ⟨fun h => hc.1 (e.symm.trans h), fun h => hc.2 (e.symm.trans h)⟩
        | put j => exact trivial
  · by_cases hia : i = a
    · subst hia
      rw [getD_setSelf (by omega), getD_setNe hab]
      have hbl := (dSet_ne hab).symm.trans hb'
      obtain ⟨g, h1, h2⟩ := hold b (hlt b hnb hbl) hbl hnb
      rw [h1]
      intro he
      injection he with he
      injection he with he
      injection he with he _
      omega
    · by_cases hib : i = b
      · subst hib
        rw [getD_setSelf (by omega), getD_setNe hia]
        have hal := (dSet_ne hia).symm.trans ha
        obtain ⟨g, h1, h2⟩ := hold a (hlt a hna hal) hal hna
        rw [h1]
        intro he
        injection he with he
        injection he with he
        injection he with he _
        omega
      · rw [getD_setNe hia, getD_setNe hib]
        exact hI.apart a b hab ((dSet_ne hia).symm.trans ha) ((dSet_ne hib).symm.trans hb') hna hnb
  · have hik : i ≠ k' := fun h => by subst h; rw [hS] at hkj; cases hkj
    have h := hI.putAfter k' j hkj ((dSet_ne hik).symm.trans hkl)
    by_cases hij : i = j
    · subst hij; exact dSet_self (by omega)
    · exact (dSet_ne hij).trans h
theorem inv_put {M : Nat → Prop} {S : List Sp} {W0 : World} {n : Nat} {listed : Array Bool} {vs : List Value} {w w' : World} {i j g : Nat} {t : TypeId} {z : Array Value} {q : Array Value → Prop} (hI : Inv M S W0 n listed vs w) (hin : i < n) (hln : listed.size = n) (hvn : vs.length = n)
    (hS : S[i]? = some (.put j)) (hSj : S[j]? = some (.new t z i q)) (hk : ∀ (j' : Nat) t z k q, S[j']? = some (Sp.new t z k q) → k = i → j' = j) (hdj : listed.getD j false = true) (hg : vs.getD j undef = .pointer (some ⟨g, 0, none⟩)) (hg0 : W0.heap.size ≤ g) (hf : Filled w w' g t q) (hz : w.heap[g]? = some (.cells z t (0, 0))) {ts : List TypeId} (hst : StabAll M ts W0.heap.size S) (hts : t ∈ ts) : Inv M S W0 n (listed.setIfInBounds i true) vs w' := by
  refine ⟨⟨hf.os.trans hI.below.os, hf.tape.trans hI.below.tape, hf.output.trans hI.below.output, by rw [hf.size]; exact hI.below.size, fun b hb hn => (hf.other b (by omega)).trans (hI.below.block b hb hn)⟩, fun m hm hml => ?_, fun a b hab ha hb' hna hnb => ?_, fun k' m hkm hkl => ?_⟩
  · by_cases hmi : i = m
    · subst hmi; unfold Have; rw [hS]; trivial
    · have hmd := (dSet_ne hmi).symm.trans hml
      have h := hI.have_ m hm hmd
      unfold Have at h ⊢
      cases hSm : S[m]? with
      | none => trivial
      | some s =>
        rw [hSm] at h
        cases s with
        | val p => exact stab_at hst hSm h (.fill g t z q hts hg0 hz hf)
        | put _ => exact trivial
        | new t' z' k' q' =>
          obtain ⟨g', h1, h2, h3, cs, h4, h5⟩ := h
          refine ⟨g', h1, h2, by rw [hf.size]; exact h3, ?_⟩
          by_cases hmj : m = j
          · subst hmj
            rw [hSj] at hSm
            cases hSm
            rw [hg] at h1
            cases h1
            obtain ⟨cs', h6, h7⟩ := hf.here
            exact ⟨cs', h6, fun _ => h7, fun h => (by have h' : (listed.setIfInBounds i true).getD i false = false := h; rw [dSet_self (by omega)] at h'; cases h')⟩
          · have hne : g' ≠ g := by
              rintro rfl
              exact hI.apart m j hmj hmd hdj (by rw [hSm]; rfl) (by rw [hSj]; rfl) (h1.trans hg.symm)
            refine ⟨cs, (hf.other g' hne).trans h4, ?_⟩
            have hki : i ≠ k' := fun h => hmj (hk m t' z' k' q' hSm h.symm)
            have e := dSet_ne (l := listed) hki
            exact ⟨fun h => h5.1 (e.symm.trans h), fun h => h5.2 (e.symm.trans h)⟩
  · have hia : i ≠ a := fun h => by subst h; rw [hS] at hna; cases hna
    have hib : i ≠ b := fun h => by subst h; rw [hS] at hnb; cases hnb
    exact hI.apart a b hab ((dSet_ne hia).symm.trans ha) ((dSet_ne hib).symm.trans hb') hna hnb
  · by_cases hik : i = k'
    · subst hik
      rw [hS] at hkm
      cases hkm
      by_cases hij : i = j
      · subst hij; exact dSet_self (by omega)
      · exact (dSet_ne hij).trans hdj
    · have h := hI.putAfter k' m hkm ((dSet_ne hik).symm.trans hkl)
      by_cases him : i = m
      · subst him; exact dSet_self (by omega)
      · exact (dSet_ne him).trans h
theorem lean_of {M : Nat → Prop} {S : List Sp} {W0 : World} {n : Nat} {listed : Array Bool} {vs : List Value} {w : World} (hI : Inv M S W0 n listed vs w) (hln : listed.size = n)
    (hput : ∀ k j : Nat, S[k]? = some (Sp.put j) → ∃ t z q, S[j]? = some (Sp.new t z k q)) (j : Nat) (hj : listed.getD j false = true) : Lean1 S W0 vs w j := by
  have hlt : ∀ j, listed.getD j false = true → j < n := fun j hl => by
    rcases Nat.lt_or_ge j n with h | h
    · exact h
    · rw [dOut (by omega)] at hl; cases hl
  have h := hI.have_ j (hlt j hj) hj
  unfold Lean1
  unfold Have at h
  cases hSj : S[j]? with
  | none => trivial
  | some s =>
    rw [hSj] at h
    cases s with
    | val p => exact h
    | new t z k q =>
      obtain ⟨g, h1, h2, h3, cs, h4, h5⟩ := h
      refine ⟨g, h1, h2, h3, cs, h4, ?_⟩
      cases hd : listed.getD k false with
      | true => exact .inr (h5.1 hd)
      | false => exact .inl (h5.2 hd)
    | put m =>
      obtain ⟨t, z, q, hSm⟩ := hput j m hSj
      simp only
      rw [hSm]
      have hmd := hI.putAfter j m hSj hj
      have h' := hI.have_ m (hlt m hmd) hmd
      unfold Have at h'
      rw [hSm] at h'
      obtain ⟨g, h1, h2, h3, cs, h4, h5⟩ := h'
      exact ⟨g, h1, h2, h3, cs, h4, h5.1 hj⟩
theorem region_spw {M : Nat → Prop} {id : Nat} {l : List Oper} {a0 : Act} {w0 : World} (hm : P.follows .mixedOrders = true) (ds : List (Option Tmp)) (vs0 : List Value) (ts : List TypeId) (S : List Sp)
    (hds : okSp ts l.toArray ds S = true) (hvs0 : vs0.length = ds.length) (ha0 : fillO a0 ds vs0 = a0) (hM : ∀ k, M k → k < w0.drew.heap.size) (hst : StabAll M ts w0.drew.heap.size S) (h : AllOk M P l.toArray Q a0 w0.drew ds S l S) (he : EndsOk M Q a0 w0.drew ds S) : (Code.region id l.toArray true).wp P Q a0 w0 := by
  have hat := allOk_at h
  unfold okSp at hds
  simp only [Bool.and_eq_true, beq_iff_eq, decide_eq_true_eq] at hds
  obtain ⟨⟨⟨⟨hsz, hsl⟩, hall⟩, hnd⟩, hcon⟩ := hds
  have hput : ∀ k j : Nat, S[k]? = some (Sp.put j) → k < ds.length ∧ ds[k]? = some none ∧ (∃ t z q, S[j]? = some (Sp.new t z k q)) ∧ (∀ o, l[k]? = some o → ∃ e ∈ o.after, Region.binds .any e = true ∧ e.on = j) := fun k j hk => by
    have hkl : k < ds.length := by
      have := (List.getElem?_eq_some_iff.1 hk).1
      omega
    have h1 := List.all_eq_true.1 hcon k (List.mem_range.2 hkl)
    rw [hk] at h1
    simp only [Bool.and_eq_true, beq_iff_eq] at h1
    refine ⟨hkl, h1.1.1, ?_, fun o ho => ?_⟩
    · have h2 := h1.1.2
      cases hj : S[j]? with
      | none => rw [hj] at h2; cases h2
      | some s =>
        rw [hj] at h2
        cases s with
        | val p => cases h2
        | put m => cases h2
        | new t z k' q =>
          obtain rfl : k' = k := by simpa using h2
          exact ⟨t, z, q, rfl⟩
    · have h2 := h1.2
      rw [show l.toArray[k]? = some o by simpa using ho] at h2
      obtain ⟨e, hem, hh⟩ := Array.any_eq_true'.1 h2
      simp only [Bool.and_eq_true, beq_iff_eq] at hh
      exact ⟨e, hem, hh.1, hh.2⟩
  have hnew : ∀ (j : Nat) t z k q, S[j]? = some (Sp.new t z k q) → ds.length ≤ k ∨ S[k]? = some (Sp.put j) := fun j t z k q hj => by
    have hjl : j < ds.length := by
      have := (List.getElem?_eq_some_iff.1 hj).1
      omega
    have h1 := List.all_eq_true.1 hcon j (List.mem_range.2 hjl)
    rw [hj] at h1
    simp only [Bool.and_eq_true, Bool.or_eq_true, decide_eq_true_eq] at h1
    replace h1 := h1.2
    rcases h1 with h1 | h1
    · exact .inl h1
    · cases hk : S[k]? with
      | none => rw [hk] at h1; cases h1
      | some s =>
        rw [hk] at h1
        cases s with
        | val p => cases h1
        | new _ _ _ _ => cases h1
        | put m =>
          obtain rfl : m = j := by simpa using h1
          exact .inr rfl
  have hmt : ∀ (j : Nat) t z k q, S[j]? = some (Sp.new t z k q) → t ∈ ts := fun j t z k q hj => by
    have hjl : j < ds.length := by
      have := (List.getElem?_eq_some_iff.1 hj).1
      omega
    have h1 := List.all_eq_true.1 hcon j (List.mem_range.2 hjl)
    rw [hj] at h1
    simp only [Bool.and_eq_true] at h1
    simpa using h1.1
  refine wp_region_any hm ?_
  have hTF : ∀ (listed : Array Bool) (j : Nat), listed.getD j true = true → j < listed.size → listed.getD j false = true := fun listed j h h' => by
    simpa [Array.getD, h'] using h
  refine wpAny_inv (I := fun listed a w => listed.size = l.toArray.size ∧ ∃ vs, vs.length = ds.length ∧ a = fillO a0 ds vs ∧ Inv M S w0.drew ds.length listed vs w) ?_ ?_ _ _ _ _ (by simp) ?_ ?_
  · intro listed a w hI i hi
    obtain ⟨hln, vs, hl, rfl, hI⟩ := hI
    obtain ⟨hun, oi, hoi, haft⟩ := mem_ready.1 hi
    have hio : i < l.toArray.size := (Array.getElem?_eq_some_iff.1 hoi).1
    have hid : i < ds.length := by omega
    have hoi' : l[i]? = some oi := by simpa using hoi
    have hunf : listed.getD i false = false := by
      cases hc : listed.getD i false with
      | false => rfl
      | true =>
        have : listed.getD i true = true := by
          have hi' : i < listed.size := by omega
          simpa [Array.getD, hi'] using hc
        rw [hun] at this; cases this
    have h1 := List.all_eq_true.1 hall i (List.mem_range.2 hid)
    rw [hoi] at h1
    simp only [Bool.and_eq_true, beq_iff_eq] at h1
    obtain ⟨hdst, hon⟩ := h1
    have hdi : ds[i]? = some oi.dst := hdst.symm
    have hS : ∃ s, S[i]? = some s := ⟨S[i], List.getElem?_eq_getElem (by omega)⟩
    obtain ⟨s, hSi⟩ := hS
    have hdone : ∀ e ∈ oi.after, Region.binds .any e = true → listed.getD e.on false = true := fun e hem hbd => haft e hem hbd
    have hlean : LeanAll S w0.drew vs w (deps oi) := leanAll_of fun j hj => by
      obtain ⟨e, he1, rfl⟩ := List.mem_map.1 hj
      obtain ⟨he1, he2⟩ := List.mem_filter.1 he1
      exact lean_of hI (by omega) (fun k j hk => (hput k j hk).2.2.1) _ (hdone e (by simpa using he1) he2)
    have hok := hat i oi s hoi' hSi vs hl w hI.below hlean
    have hkne : ∀ s', S[i]? = some s' → (∀ m, s' ≠ Sp.put m) → ∀ (j : Nat) t z k q, S[j]? = some (Sp.new t z k q) → k ≠ i := fun s' hs' hnp j t z k q hj he => by
      subst he
      rcases hnew j t z k q hj with h | h
      · omega
      · rw [hs'] at h
        exact hnp j (Option.some.inj h)
    unfold wpOp
    rw [hoi]
    simp only
    have hs : Still (if Region.wanted oi (yielded l.toArray (fillO a0 ds vs).tmps) = true then oi.wp P (fillO a0 ds vs) w (fun a' w' => (listed.setIfInBounds i true).size = l.toArray.size ∧ ∃ vs, vs.length = ds.length ∧ a' = fillO a0 ds vs ∧ Inv M S w0.drew ds.length (listed.setIfInBounds i true) vs w') Q
        else (listed.setIfInBounds i true).size = l.toArray.size ∧ ∃ vs', vs'.length = ds.length ∧ (fillO a0 ds vs).put oi.dst undef = fillO a0 ds vs' ∧ Inv M S w0.drew ds.length (listed.setIfInBounds i true) vs' w) := by
      cases s with
      | val p =>
        refine hok (fun a' w' => (listed.setIfInBounds i true).size = l.toArray.size ∧ ∃ vs, vs.length = ds.length ∧ a' = fillO a0 ds vs ∧ Inv M S w0.drew ds.length (listed.setIfInBounds i true) vs w') (fun v w' hb hp => ⟨by simpa using hln, vs.set i v, by simpa using hl, fillO_set hnd hl hdi, ?_⟩)
        exact inv_val hI hid (by omega) hl hb hM (by rw [hSi]; rfl) (hkne _ hSi (fun m h => by cases h)) (fun j h => by rw [hSi] at h; cases h) (fun p' h => by rw [hSi] at h; cases h; exact hp) hst
      | new t z k q =>
        refine hok (fun a' w' => (listed.setIfInBounds i true).size = l.toArray.size ∧ ∃ vs, vs.length = ds.length ∧ a' = fillO a0 ds vs ∧ Inv M S w0.drew ds.length (listed.setIfInBounds i true) vs w') ⟨by simpa using hln, vs.set i _, by simpa using hl, fillO_set hnd hl hdi, ?_⟩
        exact inv_new hI hid (by omega) hl hunf hSi (hkne _ hSi (fun m h => by cases h)) (hnew i t z k q hSi) hst hM
      | put j =>
        obtain ⟨hkl, hdk, ⟨t, z, q, hSj⟩, hed⟩ := hput i j hSi
        obtain ⟨e, hem, hbd, hej⟩ := hed oi hoi'
        have hdj := hdone e hem hbd
        rw [hej] at hdj
        have hjd : j < ds.length := by
          rcases Nat.lt_or_ge j ds.length with h | h
          · exact h
          · rw [dOut (by omega)] at hdj; cases hdj
        have hhave := hI.have_ j hjd hdj
        unfold Have at hhave
        rw [hSj] at hhave
        obtain ⟨g, hg, hg0, hg1, cs, hcs, hz⟩ := hhave
        obtain rfl := hz.2 hunf
        simp only at hok
        rw [hSj] at hok
        simp only at hok
        refine hok g hg hcs (fun a' w' => (listed.setIfInBounds i true).size = l.toArray.size ∧ ∃ vs, vs.length = ds.length ∧ a' = fillO a0 ds vs ∧ Inv M S w0.drew ds.length (listed.setIfInBounds i true) vs w') (fun w' hf => ⟨by simpa using hln, vs, hl, rfl, ?_⟩)
        refine inv_put hI hid (by omega) hl hSi hSj (fun j' t' z' k' q' hj' hk' => ?_) hdj hg hg0 hf hcs hst (hmt _ _ _ _ _ hSj)
        rcases hnew j' t' z' k' q' hj' with h | h
        · omega
        · rw [hk', hSi] at h
          cases h
          rfl
    have hs := hs.out
    by_cases hwt : Region.wanted oi (yielded l.toArray (fillO a0 ds vs).tmps) = true
    · rw [if_pos hwt] at hs ⊢
      exact .inl hs
    · rw [if_neg hwt] at hs ⊢
      exact hs
  · intro listed a w hI hr
    obtain ⟨hln, vs, hl, rfl, hI⟩ := hI
    have hdone : ∀ m, m < ds.length → listed.getD m false = true := by
      intro m hm2
      refine Classical.byContradiction fun hn => ?_
      have hn' : listed.getD m false = false := by simpa using hn
      have hleast : ∀ m, m < ds.length → listed.getD m false = false → ∃ i, i < ds.length ∧ listed.getD i false = false ∧ ∀ j, j < i → listed.getD j false = true := by
        intro m
        induction m using Nat.strongRecOn with
        | _ m ih =>
          intro hm hmf
          by_cases hex : ∃ j, j < m ∧ listed.getD j false = false
          · obtain ⟨j, hj, hjf⟩ := hex
            exact ih j hj (by omega) hjf
          · refine ⟨m, hm, hmf, fun j hj => ?_⟩
            cases hb : listed.getD j false with
            | true => rfl
            | false => exact absurd ⟨j, hj, hb⟩ hex
      obtain ⟨i, hid, hif, hil⟩ := hleast _ hm2 hn'
      have hio : i < l.toArray.size := by omega
      have hil' : i < listed.size := by omega
      have hif' : listed.getD i true = false := by simpa [Array.getD, hil'] using hif
      have hmem : i ∈ Region.ready .any l.toArray listed := by
        refine mem_ready.2 ⟨hif', l.toArray[i], Array.getElem?_eq_getElem hio, fun e he hbd => hil e.on ?_⟩
        have h1 := List.all_eq_true.1 hall i (List.mem_range.2 hid)
        rw [Array.getElem?_eq_getElem hio] at h1
        simp only [Bool.and_eq_true] at h1
        have := Array.all_eq_true_iff_forall_mem.1 h1.2 e he
        rw [hbd] at this
        simpa using this
      rw [hr] at hmem
      cases hmem
    refine he vs hl w hI.below (leanAll_of fun j hj => lean_of hI (by omega) (fun k j hk => (hput k j hk).2.2.1) _ (hdone j (by have := (mem_seqO hj).2; omega))) fun i j hij hi hj => ?_
    have hlt : ∀ i, (match S[i]? with | some s => s.isNew | none => false) = true → i < ds.length := fun i hi => by
      rcases Nat.lt_or_ge i ds.length with h | h
      · exact h
      · rw [List.getElem?_eq_none (by omega)] at hi; cases hi
    exact hI.apart i j hij (hdone i (hlt i hi)) (hdone j (hlt j hj)) hi hj
  · unfold left
    exact Nat.le_trans List.countP_le_length (by simp)
  · have hf : ∀ j, (Array.replicate l.toArray.size false).getD j false = false := fun j => by
      rcases Nat.lt_or_ge j l.toArray.size with h | h
      · have h' : j < (Array.replicate l.toArray.size false).size := by simpa using h
        simp only [Array.getD, h', dif_pos]
        exact Array.getElem_replicate ..
      · exact dOut (by simpa using h)
    refine ⟨by simp, vs0, hvs0, ha0.symm, Mv.refl _ _, fun j hj hjl => ?_, fun i j _ hi _ _ _ => ?_, fun k j _ hk => ?_⟩
    · rw [hf j] at hjl; cases hjl
    · rw [hf i] at hi; cases hi
    · rw [hf k] at hk; cases hk
/-- As okSp, and one operation more, which waits for all others. -/
def okSpL (ts : List TypeId) (ops : Array Oper) (ds : List (Option Tmp)) (S : List Sp) : Bool :=
  (ops.size == ds.length + 1) && (S.length == ds.length) && (List.range ds.length).all (fun i => match ops[i]? with | some o => (some o.dst == ds[i]?) && o.after.all (fun e => !(Region.binds .any e) || decide (e.on < i)) | none => false) &&
  decide (ds.filterMap id).Nodup &&
  (List.range ds.length).all (fun i => match S[i]? with
    | some (.new t z k q) => ts.contains t && (decide (ds.length ≤ k) || (match S[k]? with | some (.put j) => j == i | _ => false))
    | some (.put j) => (ds[i]? == some none) && (match S[j]? with | some (.new t z k q) => k == i | _ => false) && (match ops[i]? with | some o => o.after.any (fun e => Region.binds .any e && e.on == j) | none => false)
    | _ => true) &&
  (match ops[ds.length]? with | some o => o.after.all (fun e => !(Region.binds .any e) || decide (e.on < ds.length)) && (List.range ds.length).all (fun j => o.after.any (fun e => Region.binds .any e && e.on == j)) | none => false)
def LastOk (M : Nat → Prop) (P : Program) (ops : Array Oper) (Q : Exit → Act → World → Prop) (a0 : Act) (W0 : World) (ds : List (Option Tmp)) (S : List Sp) (o : Oper) : Prop :=
  ∀ vs : List Value, vs.length = ds.length → ∀ w, Mv M W0 w → LeanAll S W0 vs w (EndsOk.seqO 0 ds) → Apart S vs → ∀ K : Act → World → Prop, (∀ a' w', Q .normal a' w' → K a' w') →
    Still (if Region.wanted o (yielded ops (fillO a0 ds vs).tmps) = true then o.wp P (fillO a0 ds vs) w K Q else K ((fillO a0 ds vs).put o.dst undef) w)
def AllOkL (M : Nat → Prop) (P : Program) (ops : Array Oper) (Q : Exit → Act → World → Prop) (a0 : Act) (W0 : World) (ds : List (Option Tmp)) (S : List Sp) : List Oper → List Sp → Prop
  | [o], [] => LastOk M P ops Q a0 W0 ds S o
  | o :: r, s :: r' => OpOk M P ops Q a0 W0 ds S o s ∧ AllOkL M P ops Q a0 W0 ds S r r'
  | _, _ => False
theorem allOkL_last {M : Nat → Prop} {P : Program} {ops : Array Oper} {Q : Exit → Act → World → Prop} {a0 : Act} {W0 : World} {ds : List (Option Tmp)} {S : List Sp} {o : Oper} (h : LastOk M P ops Q a0 W0 ds S o) : AllOkL M P ops Q a0 W0 ds S [o] [] := h
theorem allOkL_at {M : Nat → Prop} {a0 : Act} {W0 : World} {ds : List (Option Tmp)} {S : List Sp} : ∀ {l : List Oper} {l' : List Sp}, AllOkL M P ops Q a0 W0 ds S l l' → (∀ (i : Nat) (o : Oper) (s : Sp), l[i]? = some o → l'[i]? = some s → OpOk M P ops Q a0 W0 ds S o s) ∧ (∀ o, l[l'.length]? = some o → LastOk M P ops Q a0 W0 ds S o) := by
  intro l
  induction l with
  | nil => intro l' h; exact h.elim
  | cons o0 r ih =>
    intro l' h
    cases l' with
    | nil =>
      cases r with
      | nil =>
        refine ⟨fun i o s _ hs => by simp at hs, fun o ho => ?_⟩
        obtain rfl : o0 = o := by simpa using ho
        exact h
      | cons _ _ => exact h.elim
    | cons s0 r' =>
      have h2 : OpOk M P ops Q a0 W0 ds S o0 s0 ∧ AllOkL M P ops Q a0 W0 ds S r r' := by cases r <;> exact h
      obtain ⟨k1, k2⟩ := ih h2.2
      refine ⟨fun i o s ho hs => ?_, fun o ho => k2 o (by simpa using ho)⟩
      cases i with
      | zero =>
        obtain rfl : o0 = o := by simpa using ho
        obtain rfl : s0 = s := by simpa using hs
        exact h2.1
      | succ i => exact k1 i o s (by simpa using ho) (by simpa using hs)
theorem pop_getD {l : Array Bool} {j : Nat} (h : j + 1 < l.size) : l.pop.getD j false = l.getD j false := by
  have h1 : j < l.pop.size := by simp; omega
  have h2 : j < l.size := by omega
  simp only [Array.getD, h1, h2, dif_pos]
  exact Array.getElem_pop ..
theorem pop_set {l : Array Bool} {i n : Nat} (h : i < n) (hl : n < l.size) : (l.setIfInBounds i true).pop = l.pop.setIfInBounds i true := by
  apply Array.ext
  · simp
  · intro j h1 h2
    rw [Array.getElem_pop, Array.getElem_setIfInBounds (by simp at h1; omega), Array.getElem_setIfInBounds (by simpa using h2), Array.getElem_pop]
theorem region_spl {M : Nat → Prop} {id : Nat} {l : List Oper} {a0 : Act} {w0 : World} (hm : P.follows .mixedOrders = true) (ds : List (Option Tmp)) (vs0 : List Value) (ts : List TypeId) (S : List Sp)
    (hds : okSpL ts l.toArray ds S = true) (hvs0 : vs0.length = ds.length) (ha0 : fillO a0 ds vs0 = a0) (hM : ∀ k, M k → k < w0.drew.heap.size) (hst : StabAll M ts w0.drew.heap.size S) (h : AllOkL M P l.toArray Q a0 w0.drew ds S l S) : (Code.region id l.toArray true).wp P Q a0 w0 := by
  obtain ⟨hat, hlast⟩ := allOkL_at h
  unfold okSpL at hds
  simp only [Bool.and_eq_true, beq_iff_eq, decide_eq_true_eq] at hds
  obtain ⟨⟨⟨⟨⟨hsz, hsl⟩, hall⟩, hnd⟩, hcon⟩, hfin⟩ := hds
  have hput : ∀ k j : Nat, S[k]? = some (Sp.put j) → k < ds.length ∧ ds[k]? = some none ∧ (∃ t z q, S[j]? = some (Sp.new t z k q)) ∧ (∀ o, l[k]? = some o → ∃ e ∈ o.after, Region.binds .any e = true ∧ e.on = j) := fun k j hk => by
    have hkl : k < ds.length := by
      have := (List.getElem?_eq_some_iff.1 hk).1
      omega
    have h1 := List.all_eq_true.1 hcon k (List.mem_range.2 hkl)
    rw [hk] at h1
    simp only [Bool.and_eq_true, beq_iff_eq] at h1
    refine ⟨hkl, h1.1.1, ?_, fun o ho => ?_⟩
    · have h2 := h1.1.2
      cases hj : S[j]? with
      | none => rw [hj] at h2; cases h2
      | some s =>
        rw [hj] at h2
        cases s with
        | val p => cases h2
        | put m => cases h2
        | new t z k' q =>
          obtain rfl : k' = k := by simpa using h2
          exact ⟨t, z, q, rfl⟩
    · have h2 := h1.2
      rw [show l.toArray[k]? = some o by simpa using ho] at h2
      obtain ⟨e, hem, hh⟩ := Array.any_eq_true'.1 h2
      simp only [Bool.and_eq_true, beq_iff_eq] at hh
      exact ⟨e, hem, hh.1, hh.2⟩
  have hnew : ∀ (j : Nat) t z k q, S[j]? = some (Sp.new t z k q) → ds.length ≤ k ∨ S[k]? = some (Sp.put j) := fun j t z k q hj => by
    have hjl : j < ds.length := by
      have := (List.getElem?_eq_some_iff.1 hj).1
      omega
    have h1 := List.all_eq_true.1 hcon j (List.mem_range.2 hjl)
    rw [hj] at h1
    simp only [Bool.and_eq_true, Bool.or_eq_true, decide_eq_true_eq] at h1
    replace h1 := h1.2
    rcases h1 with h1 | h1
    · exact .inl h1
    · cases hk : S[k]? with
      | none => rw [hk] at h1; cases h1
      | some s =>
        rw [hk] at h1
        cases s with
        | val p => cases h1
        | new _ _ _ _ => cases h1
        | put m =>
          obtain rfl : m = j := by simpa using h1
          exact .inr rfl
  have hmt : ∀ (j : Nat) t z k q, S[j]? = some (Sp.new t z k q) → t ∈ ts := fun j t z k q hj => by
    have hjl : j < ds.length := by
      have := (List.getElem?_eq_some_iff.1 hj).1
      omega
    have h1 := List.all_eq_true.1 hcon j (List.mem_range.2 hjl)
    rw [hj] at h1
    simp only [Bool.and_eq_true] at h1
    simpa using h1.1
  refine wp_region_any hm ?_
  have hTF : ∀ (listed : Array Bool) (j : Nat), listed.getD j true = true → j < listed.size → listed.getD j false = true := fun listed j h h' => by
    simpa [Array.getD, h'] using h
  have hlo : ∃ oL, l[ds.length]? = some oL := ⟨l[ds.length]'(by simp at hsz; omega), List.getElem?_eq_getElem (by simp at hsz; omega)⟩
  obtain ⟨oL, hoL⟩ := hlo
  rw [show l.toArray[ds.length]? = some oL by simpa using hoL] at hfin
  simp only [Bool.and_eq_true] at hfin
  have hwait : ∀ j, j < ds.length → ∃ e ∈ oL.after, Region.binds .any e = true ∧ e.on = j := fun j hj => by
    have h2 := List.all_eq_true.1 hfin.2 j (List.mem_range.2 hj)
    obtain ⟨e, hem, hh⟩ := Array.any_eq_true'.1 h2
    simp only [Bool.and_eq_true, beq_iff_eq] at hh
    exact ⟨e, hem, hh.1, hh.2⟩
  refine wpAny_inv (I := fun listed a w => listed.size = l.toArray.size ∧ ((listed.getD ds.length false = false ∧ ∃ vs, vs.length = ds.length ∧ a = fillO a0 ds vs ∧ Inv M S w0.drew ds.length listed.pop vs w) ∨ ((∀ j, j < ds.length + 1 → listed.getD j false = true) ∧ Q .normal a w))) ?_ ?_ _ _ _ _ (by simp) ?_ ?_
  · intro listed a w hI i hi
    obtain ⟨hln, hI⟩ := hI
    obtain ⟨hun, oi, hoi, haft⟩ := mem_ready.1 hi
    have hps : listed.pop.size = ds.length := by simp at hln hsz ⊢; omega
    have hL : ∀ j, j < ds.length → listed.pop.getD j false = listed.getD j false := fun j hj => pop_getD (by simp at hln hsz; omega)
    have hio : i < l.toArray.size := (Array.getElem?_eq_some_iff.1 hoi).1
    rcases hI with ⟨hnl, vs, hl, rfl, hI⟩ | ⟨hal, hQ⟩
    rotate_left
    · have h1 := hal i (by omega)
      have : listed.getD i true = true := by
        have hi' : i < listed.size := by omega
        simpa [Array.getD, hi'] using h1
      rw [hun] at this; cases this
    by_cases hid : i < ds.length
    rotate_left
    · obtain rfl : i = ds.length := by omega
      have hoi' : l[ds.length]? = some oi := by simpa using hoi
      obtain rfl : oL = oi := by rw [hoL] at hoi'; exact Option.some.inj hoi'
      have hdn : ∀ j, j < ds.length → listed.getD j false = true := fun j hj => by
        obtain ⟨e, hem, hb, rfl⟩ := hwait j hj
        exact haft e hem hb
      have hok := hlast oL (by rw [hsl]; exact hoL) vs hl w hI.below (leanAll_of fun j hj => lean_of hI hps (fun k j hk => (hput k j hk).2.2.1) _ ((hL j (by have := (mem_seqO hj).2; omega)).trans (hdn j (by have := (mem_seqO hj).2; omega)))) (fun i j hij hi hj => by
        have hlt : ∀ i, (match S[i]? with | some s => s.isNew | none => false) = true → i < ds.length := fun i hi => by
          rcases Nat.lt_or_ge i ds.length with h | h
          · exact h
          · rw [List.getElem?_eq_none (by omega)] at hi; cases hi
        exact hI.apart i j hij ((hL i (hlt i hi)).trans (hdn i (hlt i hi))) ((hL j (hlt j hj)).trans (hdn j (hlt j hj))) hi hj)
      unfold wpOp
      rw [hoi]
      simp only
      have hfull : ∀ j, j < ds.length + 1 → (listed.setIfInBounds ds.length true).getD j false = true := fun j hj => by
        by_cases hjn : ds.length = j
        · subst hjn; exact dSet_self (by omega)
        · exact (dSet_ne hjn).trans (hdn j (by omega))
      have hs := (hok (fun a' w' => (listed.setIfInBounds ds.length true).size = l.toArray.size ∧ (((listed.setIfInBounds ds.length true).getD ds.length false = false ∧ ∃ vs, vs.length = ds.length ∧ a' = fillO a0 ds vs ∧ Inv M S w0.drew ds.length (listed.setIfInBounds ds.length true).pop vs w') ∨ ((∀ j, j < ds.length + 1 → (listed.setIfInBounds ds.length true).getD j false = true) ∧ Q .normal a' w'))) (fun a' w' hq => ⟨by simpa using hln, .inr ⟨hfull, hq⟩⟩)).out
      by_cases hwt : Region.wanted oL (yielded l.toArray (fillO a0 ds vs).tmps) = true
      · rw [if_pos hwt] at hs ⊢
        exact .inl hs
      · rw [if_neg hwt] at hs ⊢
        exact hs
    have hoi' : l[i]? = some oi := by simpa using hoi
    have hunf : listed.getD i false = false := by
      cases hc : listed.getD i false with
      | false => rfl
      | true =>
        have : listed.getD i true = true := by
          have hi' : i < listed.size := by omega
          simpa [Array.getD, hi'] using hc
        rw [hun] at this; cases this
    have h1 := List.all_eq_true.1 hall i (List.mem_range.2 hid)
    rw [hoi] at h1
    simp only [Bool.and_eq_true, beq_iff_eq] at h1
    obtain ⟨hdst, hon⟩ := h1
    have hdi : ds[i]? = some oi.dst := hdst.symm
    have hS : ∃ s, S[i]? = some s := ⟨S[i], List.getElem?_eq_getElem (by omega)⟩
    obtain ⟨s, hSi⟩ := hS
    have hdone : ∀ e ∈ oi.after, Region.binds .any e = true → listed.getD e.on false = true := fun e hem hbd => haft e hem hbd
    have hlean : LeanAll S w0.drew vs w (deps oi) := leanAll_of fun j hj => by
      obtain ⟨e, he1, rfl⟩ := List.mem_map.1 hj
      obtain ⟨he1, he2⟩ := List.mem_filter.1 he1
      exact lean_of hI hps (fun k j hk => (hput k j hk).2.2.1) _ (by have q := hdone e (by simpa using he1) he2; have hlt : e.on < i := (by have := Array.all_eq_true_iff_forall_mem.1 hon e (by simpa using he1); rw [he2] at this; simpa using this); exact (hL _ (by omega)).trans q)
    have hok := hat i oi s hoi' hSi vs hl w hI.below hlean
    have hkne : ∀ s', S[i]? = some s' → (∀ m, s' ≠ Sp.put m) → ∀ (j : Nat) t z k q, S[j]? = some (Sp.new t z k q) → k ≠ i := fun s' hs' hnp j t z k q hj he => by
      subst he
      rcases hnew j t z k q hj with h | h
      · omega
      · rw [hs'] at h
        exact hnp j (Option.some.inj h)
    unfold wpOp
    rw [hoi]
    simp only
    have hnn : ds.length ≠ i := by omega
    have hnl' : (listed.setIfInBounds i true).getD ds.length false = false := (dSet_ne (Ne.symm hnn)).trans hnl
    have hs : Still (if Region.wanted oi (yielded l.toArray (fillO a0 ds vs).tmps) = true then oi.wp P (fillO a0 ds vs) w (fun a' w' => (listed.setIfInBounds i true).size = l.toArray.size ∧ (((listed.setIfInBounds i true).getD ds.length false = false ∧ ∃ vs, vs.length = ds.length ∧ a' = fillO a0 ds vs ∧ Inv M S w0.drew ds.length (listed.setIfInBounds i true).pop vs w') ∨ ((∀ j, j < ds.length + 1 → (listed.setIfInBounds i true).getD j false = true) ∧ Q .normal a' w'))) Q
        else (listed.setIfInBounds i true).size = l.toArray.size ∧ (((listed.setIfInBounds i true).getD ds.length false = false ∧ ∃ vs', vs'.length = ds.length ∧ (fillO a0 ds vs).put oi.dst undef = fillO a0 ds vs' ∧ Inv M S w0.drew ds.length (listed.setIfInBounds i true).pop vs' w) ∨ ((∀ j, j < ds.length + 1 → (listed.setIfInBounds i true).getD j false = true) ∧ Q .normal ((fillO a0 ds vs).put oi.dst undef) w))) := by
      cases s with
      | val p =>
        refine hok (fun a' w' => (listed.setIfInBounds i true).size = l.toArray.size ∧ (((listed.setIfInBounds i true).getD ds.length false = false ∧ ∃ vs, vs.length = ds.length ∧ a' = fillO a0 ds vs ∧ Inv M S w0.drew ds.length (listed.setIfInBounds i true).pop vs w') ∨ ((∀ j, j < ds.length + 1 → (listed.setIfInBounds i true).getD j false = true) ∧ Q .normal a' w'))) (fun v w' hb hp => ⟨by simpa using hln, .inl ⟨hnl', vs.set i v, by simpa using hl, fillO_set hnd hl hdi, ?_⟩⟩)
        rw [pop_set hid (by simp at hln hsz; omega)]
        exact inv_val hI hid hps hl hb hM (by rw [hSi]; rfl) (hkne _ hSi (fun m h => by cases h)) (fun j h => by rw [hSi] at h; cases h) (fun p' h => by rw [hSi] at h; cases h; exact hp) hst
      | new t z k q =>
        refine hok (fun a' w' => (listed.setIfInBounds i true).size = l.toArray.size ∧ (((listed.setIfInBounds i true).getD ds.length false = false ∧ ∃ vs, vs.length = ds.length ∧ a' = fillO a0 ds vs ∧ Inv M S w0.drew ds.length (listed.setIfInBounds i true).pop vs w') ∨ ((∀ j, j < ds.length + 1 → (listed.setIfInBounds i true).getD j false = true) ∧ Q .normal a' w'))) ⟨by simpa using hln, .inl ⟨hnl', vs.set i _, by simpa using hl, fillO_set hnd hl hdi, ?_⟩⟩
        rw [pop_set hid (by simp at hln hsz; omega)]
        exact inv_new hI hid hps hl ((hL i hid).trans hunf) hSi (hkne _ hSi (fun m h => by cases h)) (hnew i t z k q hSi) hst hM
      | put j =>
        obtain ⟨hkl, hdk, ⟨t, z, q, hSj⟩, hed⟩ := hput i j hSi
        obtain ⟨e, hem, hbd, hej⟩ := hed oi hoi'
        have hdj := hdone e hem hbd
        rw [hej] at hdj
        have hjd : j < ds.length := by
          have := (List.getElem?_eq_some_iff.1 hSj).1
          omega
        have hhave := hI.have_ j hjd ((hL j hjd).trans hdj)
        unfold Have at hhave
        rw [hSj] at hhave
        obtain ⟨g, hg, hg0, hg1, cs, hcs, hz⟩ := hhave
        obtain rfl := hz.2 ((hL i hid).trans hunf)
        simp only at hok
        rw [hSj] at hok
        simp only at hok
        refine hok g hg hcs (fun a' w' => (listed.setIfInBounds i true).size = l.toArray.size ∧ (((listed.setIfInBounds i true).getD ds.length false = false ∧ ∃ vs, vs.length = ds.length ∧ a' = fillO a0 ds vs ∧ Inv M S w0.drew ds.length (listed.setIfInBounds i true).pop vs w') ∨ ((∀ j, j < ds.length + 1 → (listed.setIfInBounds i true).getD j false = true) ∧ Q .normal a' w'))) (fun w' hf => ⟨by simpa using hln, .inl ⟨hnl', vs, hl, rfl, ?_⟩⟩)
        rw [pop_set hid (by simp at hln hsz; omega)]
        refine inv_put hI hid hps hl hSi hSj (fun j' t' z' k' q' hj' hk' => ?_) ((hL j hjd).trans hdj) hg hg0 hf hcs hst (hmt _ _ _ _ _ hSj)
        rcases hnew j' t' z' k' q' hj' with h | h
        · omega
        · rw [hk', hSi] at h
          cases h
          rfl
    have hs := hs.out
    by_cases hwt : Region.wanted oi (yielded l.toArray (fillO a0 ds vs).tmps) = true
    · rw [if_pos hwt] at hs ⊢
      exact .inl hs
    · rw [if_neg hwt] at hs ⊢
      exact hs
  · intro listed a w hI hr
    obtain ⟨hln, hI⟩ := hI
    rcases hI with ⟨hnl, _⟩ | ⟨_, hQ⟩
    rotate_left
    · exact hQ
    exfalso
    have hdone : ∀ m, m < ds.length → listed.getD m false = true := by
      intro m hm2
      refine Classical.byContradiction fun hn => ?_
      have hn' : listed.getD m false = false := by simpa using hn
      have hleast : ∀ m, m < ds.length → listed.getD m false = false → ∃ i, i < ds.length ∧ listed.getD i false = false ∧ ∀ j, j < i → listed.getD j false = true := by
        intro m
        induction m using Nat.strongRecOn with
        | _ m ih =>
          intro hm hmf
          by_cases hex : ∃ j, j < m ∧ listed.getD j false = false
          · obtain ⟨j, hj, hjf⟩ := hex
            exact ih j hj (by omega) hjf
          · refine ⟨m, hm, hmf, fun j hj => ?_⟩
            cases hb : listed.getD j false with
            | true => rfl
            | false => exact absurd ⟨j, hj, hb⟩ hex
      obtain ⟨i, hid, hif, hil⟩ := hleast _ hm2 hn'
      have hio : i < l.toArray.size := by omega
      have hil' : i < listed.size := by omega
      have hif' : listed.getD i true = false := by simpa [Array.getD, hil'] using hif
      have hmem : i ∈ Region.ready .any l.toArray listed := by
        refine mem_ready.2 ⟨hif', l.toArray[i], Array.getElem?_eq_getElem hio, fun e he hbd => hil e.on ?_⟩
        have h1 := List.all_eq_true.1 hall i (List.mem_range.2 hid)
        rw [Array.getElem?_eq_getElem hio] at h1
        simp only [Bool.and_eq_true] at h1
        have := Array.all_eq_true_iff_forall_mem.1 h1.2 e he
        rw [hbd] at this
        simpa using this
      rw [hr] at hmem
      cases hmem
    have hmem : ds.length ∈ Region.ready .any l.toArray listed := by
      refine mem_ready.2 ⟨?_, oL, by simpa using hoL, fun e he hbd => hdone e.on ?_⟩
      · have hi' : ds.length < listed.size := by omega
        simpa [Array.getD, hi'] using hnl
      · have := Array.all_eq_true_iff_forall_mem.1 hfin.1 e he
        rw [hbd] at this
        simpa using this
    rw [hr] at hmem
    cases hmem
  · unfold left
    exact Nat.le_trans List.countP_le_length (by simp)
  · have hf : ∀ j, (Array.replicate l.toArray.size false).getD j false = false := fun j => by
      rcases Nat.lt_or_ge j l.toArray.size with h | h
      · have h' : j < (Array.replicate l.toArray.size false).size := by simpa using h
        simp only [Array.getD, h', dif_pos]
        exact Array.getElem_replicate ..
      · exact dOut (by simpa using h)
    have hf' : ∀ j, (Array.replicate l.toArray.size false).pop.getD j false = false := fun j => by
      rw [hsz, Array.pop_replicate, Nat.add_sub_cancel]
      rcases Nat.lt_or_ge j ds.length with h | h
      · have h' : j < (Array.replicate ds.length false).size := by simpa using h
        simp only [Array.getD, h', dif_pos]
        exact Array.getElem_replicate ..
      · exact dOut (by simpa using h)
    refine ⟨by simp, .inl ⟨hf _, vs0, hvs0, ha0.symm, Mv.refl _ _, fun j hj hjl => ?_, fun i j _ hi _ _ _ => ?_, fun k j _ hk => ?_⟩⟩
    · rw [hf' j] at hjl; cases hjl
    · rw [hf' i] at hi; cases hi
    · rw [hf' k] at hk; cases hk
end
end Go.Proofs.Ytphfmcdkldcmiaa.Rt
/- Rows that lie in an interval of blocks. -/
namespace Go.Proofs.Ytphfmcdkldcmiaa.Mk
open Go Go.RowKit Go.Proofs.YtphfmcdkldcmiaaW.PrintWords Go.Proofs.YtphfmcdkldcmiaaW.PrintLast Go.Proofs.YtphfmcdkldcmiaaW.PrintMore
set_option linter.unusedVariables false
set_option linter.unusedSimpArgs false
/-- A row of one's own (of rows, which lie apart) all of whose blocks lie between lo and hi. -/
structure RowS {α : Type} (d : Kd α) (e : Nat) (w : World) (lo hi : Nat) (v : Value) (xs : List α) : Prop where out : Kd.S d e w lo (fun k => lo ≤ k ∧ k < hi) v xs
structure RowR {α : Type} (d : Kd α) (e : Nat) (w : World) (lo hi : Nat) (v : Value) (xs : List α) : Prop where out : Kd.R d e w lo (fun k => lo ≤ k ∧ k < hi) v xs
section
variable {α : Type} {d : Kd α} {e : Nat} {w w1 W : World} {lo hi : Nat} {v : Value} {xs : List α}
theorem RowS.new {base : Nat} {ok : Nat → Prop} (h : Kd.S d e w1 base ok v xs) : RowS d e w1 base w1.heap.size v xs := ⟨Kd.S_mono (Kd.S_bound h) (fun k hk => ⟨hk.2.1, hk.2.2.1⟩)⟩
theorem RowS.below (h : RowS d e w lo hi v xs) (hb : Below w.heap.size w w1) : RowS d e w1 lo hi v xs := ⟨Kd.S_below h.out hb⟩
theorem RowS.kept {S : Nat → Prop} (h : RowS d e w lo hi v xs) (hk : Kept w w1 S) (hne : ∀ k, lo ≤ k → k < hi → ¬ S k) : RowS d e w1 lo hi v xs := ⟨Kd.S_kept h.out hk (fun k h2 => hne k h2.1 h2.2)⟩
theorem RowS.slice (h : RowS d e w lo hi v xs) : ∃ A c, v = .slice A xs.length c := Kd.S_slice h.out
theorem RowS.reads {A : Option Addr} {n c : Nat} (h : RowS d e w lo hi (.slice A n c) xs) : n = xs.length ∧ n ≤ c ∧ d.C w A xs.length xs := Kd.S_reads' h.out
theorem RowR.new {base : Nat} {ok : Nat → Prop} (h : Kd.R d e w1 base ok v xs) : RowR d e w1 base w1.heap.size v xs := ⟨Kd.R_mono (Kd.R_bound h) (fun k hk => ⟨hk.2.1, hk.2.2.1⟩)⟩
theorem RowR.below (h : RowR d e w lo hi v xs) (hb : Below w.heap.size w w1) : RowR d e w1 lo hi v xs := ⟨Kd.R_below h.out hb⟩
theorem RowR.kept {S : Nat → Prop} (h : RowR d e w lo hi v xs) (hk : Kept w w1 S) (hne : ∀ k, lo ≤ k → k < hi → ¬ S k) : RowR d e w1 lo hi v xs := ⟨Kd.R_kept h.out hk (fun k h2 => hne k h2.1 h2.2)⟩
theorem RowR.slice (h : RowR d e w lo hi v xs) : ∃ A c, v = .slice A xs.length c := Kd.R_slice h.out
theorem RowR.reads {A : Option Addr} {n c : Nat} (h : RowR d e w lo hi (.slice A n c) xs) : n = xs.length ∧ n ≤ c ∧ d.C w A xs.length xs := Kd.R_reads' h.out
end
end Go.Proofs.Ytphfmcdkldcmiaa.Mk
/- The cursor of the drawings: what its functions keep, whatever they draw. -/
namespace Go.Proofs.Ytphfmcdkldcmiaa.Cu
open Go Go.RowKit Go.Proofs.YtphfmcdkldcmiaaW.PrintWords Go.Proofs.YtphfmcdkldcmiaaW.PrintLast Go.Proofs.YtphfmcdkldcmiaaW.PrintMore Go.Proofs.Ytphfmcdkldcmiaa.Rg Go.Proofs.Ytphfmcdkldcmiaa.Rs
open Go.Proofs.Ytphfmcdkldcmiaa.Rt (Mv Near region_spw)
set_option linter.unusedVariables false
set_option linter.unusedSimpArgs false
abbrev TC : Nat := 108
theorem i64_and255 (n : Int) : bits .and .i64 n 255 = n % 256 := by
  have h255 : (BitVec.ofInt 64 255).toNat = 2 ^ 8 - 1 := by decide
  have key : (BitVec.ofInt 64 n &&& BitVec.ofInt 64 255).toNat = (n % ((2 ^ 64 : Nat) : Int)).toNat % 2 ^ 8 := by
    rw [BitVec.toNat_and, BitVec.toNat_ofInt, h255, Nat.and_two_pow_sub_one_eq_mod]
  show IntKind.i64.wrap ((BitVec.ofInt 64 n &&& BitVec.ofInt 64 255).toNat : Nat) = n % 256
  rw [key, IntKind.wrap_i64]
  omega
theorem and255 (n : Int) : 0 ≤ bits .and .i64 n 255 ∧ bits .and .i64 n 255 ≤ 255 := by rw [i64_and255]; omega
/-- A cursor at g over the bytes of A, which were there in w0. -/
theorem below_st {B : Nat} {w W : World} {p : Addr} (h : Below B w W) (hp : B ≤ p.block) (v : Value) : Below B w (W.setCell p v) := h.setCell hp v
structure Cs (w0 W : World) (g : Nat) (A : Option Addr) (n c : Nat) (bs : List Int) : Prop where
  hr : (Kd.int .u8).C w0 A n bs
  hb : Below w0.heap.size w0 W
  hg : w0.heap.size ≤ g
  cur : ∃ i h : Int, 0 ≤ i ∧ Blk W g TC #[.slice A n c, .int .i64 i, .int .i64 h]
theorem Cs.move {w0 W W' : World} {g n c : Nat} {A : Option Addr} {bs : List Int} (h : Cs w0 W g A n c bs) (hb : Below W.heap.size W W') : Cs w0 W' g A n c bs := by
  obtain ⟨i, x, h0, hB⟩ := h.cur
  exact ⟨h.hr, h.hb.trans (hb.mono h.hb.size), h.hg, i, x, h0, hB.below hb⟩
abbrev Only (g : Nat) (W W' : World) : Prop := Mv (fun k => k = g) W W'
theorem blk3_set {W : World} {g : Nat} {t : TypeId} {a b d v : Value} (h : Blk W g t #[a, b, d]) : Blk (W.setCell ⟨g, 2, none⟩ v) g t #[a, b, v] := h.set 2 v
theorem blk3_set1 {W : World} {g : Nat} {t : TypeId} {a b d v : Value} (h : Blk W g t #[a, b, d]) : Blk (W.setCell ⟨g, 1, none⟩ v) g t #[a, v, d] := h.set 1 v
theorem at_byte {w : World} {A : Option Addr} {n : Nat} {xs : List Int} (h : (Kd.int .u8).C w A n xs) (i : Int) (h0 : 0 ≤ i) (h1 : i < n) : ∃ ad, A = some ad ∧ w.cell? (ad.add i.toNat) = some (.int .u8 (rdOf 0 xs i)) :=
  ReadsOf.at_ (Kd.reads_of_C (enc := Value.int .u8) (d := (0 : Int)) (h1 := fun _ => rfl) h) i h0 h1
set_option maxHeartbeats 2000000 in
theorem byte_any {w0 W : World} {g n c : Nat} {A : Option Addr} {bs : List Int} (h : Cs w0 W g A n c bs) :
    Calls Try.prog 82 #[.pointer (some ⟨g, 0, none⟩)] W fun e W' => (∃ x : Int, 0 ≤ x ∧ x ≤ 255 ∧ e = .returned (.int .i64 x)) ∧ Cs w0 W' g A n c bs ∧ Only g W W' := by
  obtain ⟨hr, hb, hg, i, hh, h0, hB⟩ := h
  have HR := Aside0.mk hr
  have HB := Aside0.mk hb
  have HG := Aside0.mk hg
  clear hr hb hg
  obtain ⟨q0, q1, q2⟩ := hB.three
  have f2 := hB.free 2
  go_enter Try.func82, Try.ntmps82
  go_upto_region 2 with fail
  generalize wrap64 (wrap64 (hh * 6364136223846793005) + 1442695040888963407) = h2
  have CB := blk3_set (v := .int .i64 h2) hB
  have HM := Aside0.mk ((Mv.refl (fun k => k = g) W).set (i := 2) (.inl rfl) (.int .i64 h2))
  have HBB := Aside0.mk (below_st HB.out (p := ⟨g, 2, none⟩) HG.out (.int .i64 h2))
  clear q0 q1 q2 f2 hB
  generalize W.setCell ⟨g, 2, none⟩ (.int .i64 h2) = W1 at CB HM HBB ⊢
  obtain ⟨q0, q1, q2⟩ := CB.three
  go_quiet (fail)
  go_upto_region 3 with fail
  have hx := and255 (bits BinOp.xor IntKind.i64 (h2 / 8589934592) (h2 / 35184372088832))
  generalize bits BinOp.and IntKind.i64 (bits BinOp.xor IntKind.i64 (h2 / 8589934592) (h2 / 35184372088832)) 255 = x at hx ⊢
  replace CB := CB.drewN nq
  replace HM := Aside0.mk (HM.out.drewN nq)
  replace HBB := Aside0.mk (pw_below_drewN HBB.out nq)
  clear q0 q1 q2
  generalize W1.drewN nq = W2 at CB HM HBB ⊢
  obtain ⟨q0, q1, q2⟩ := CB.three
  have HX := Aside0.mk hx
  have H0 := Aside0.mk h0
  clear hx
  by_cases hi : i < n
  · have hd : decide (i < (n : Int)) = true := decide_eq_true hi
    obtain ⟨ad, eA, hz⟩ := at_byte HR.out i h0 hi
    subst eA
    replace hz := (HBB.out.cell (World.block_lt_of_cell? w0 _ hz)).trans hz
    have hn9 : n ≤ 9223372036854775807 := HR.out.2.1
    have e1 : wrap64 (i + 1) = i + 1 := by unfold wrap64; omega
    go_quiet (fail)
    go_upto_region 4 with fail
    replace CB := CB.drewN nq
    replace HM := Aside0.mk (HM.out.drewN nq)
    replace HBB := Aside0.mk (pw_below_drewN HBB.out nq)
    replace hz : (W2.drewN nq).cell? _ = some _ := hz
    clear q0 q1 q2
    generalize W2.drewN nq = W3 at CB HM HBB hz ⊢
    obtain ⟨q0, q1, q2⟩ := CB.three
    go_quiet (fail)
    go_upto_region 5 with fail
    replace CB := CB.drewN nq
    replace HM := Aside0.mk (HM.out.drewN nq)
    replace HBB := Aside0.mk (pw_below_drewN HBB.out nq)
    clear q0 q1 q2 hz
    generalize W3.drewN nq = W4 at CB HM HBB ⊢
    obtain ⟨q0, q1, q2⟩ := CB.three
    have f1 := CB.free 1
    have HC := Aside0.mk (blk3_set1 (v := .int .i64 (i + 1)) CB)
    clear CB
    have HY := Aside0.mk (fun y => and255 y)
    go_wp2
    go_ret
    exact ⟨⟨_, (HY.out _).1, (HY.out _).2, rfl⟩, ⟨HR.out, below_st HBB.out HG.out _, HG.out, i + 1, h2, by have := H0.out; omega, HC.out⟩, HM.out.set (.inl rfl) _⟩
  · have hd : decide (i < (n : Int)) = false := decide_eq_false hi
    go_quiet (fail)
    replace CB := CB.drewN nq
    replace HM := Aside0.mk (HM.out.drewN nq)
    replace HBB := Aside0.mk (pw_below_drewN HBB.out nq)
    clear q0 q1 q2
    go_wp2
    go_ret
    exact ⟨⟨_, HX.out.1, HX.out.2, rfl⟩, ⟨HR.out, HBB.out, HG.out, i, h2, H0.out, CB⟩, HM.out⟩
theorem tmod_in {x k : Int} (h0 : 0 ≤ x) (hk : 0 < k) : 0 ≤ x.tmod k ∧ x.tmod k < k := by
  rw [Int.tmod_eq_emod_of_nonneg h0]
  exact ⟨Int.emod_nonneg _ (by omega), Int.emod_lt_of_pos _ hk⟩
theorem w64 (x : Int) (h0 : -9223372036854775808 ≤ x) (h1 : x < 9223372036854775808) : wrap64 x = x := by
  unfold wrap64
  omega
set_option maxHeartbeats 2000000 in
theorem below_any {w0 W : World} {g n c : Nat} {A : Option Addr} {bs : List Int} (h : Cs w0 W g A n c bs) (k : Int) (hk : 0 < k) (hk2 : k ≤ 1000000) :
    Calls Try.prog 72 #[.pointer (some ⟨g, 0, none⟩), .int .i64 k] W fun e W' => (∃ x : Int, 0 ≤ x ∧ x < k ∧ e = .returned (.int .i64 x)) ∧ Cs w0 W' g A n c bs ∧ Only g W W' := by
  have d0 : decide (k ≤ 0) = false := decide_eq_false (by omega)
  have dn : ¬ k = 0 := by omega
  have HK := Aside0.mk hk
  by_cases h256 : k ≤ 256
  · have d1 : decide (k ≤ 256) = true := decide_eq_true h256
    clear hk hk2
    go_enter Try.func72, Try.ntmps72
    go_wp2_with fail
    refine (byte_any h).mono ?_
    rintro e W1 ⟨⟨x, hx0, hx1, rfl⟩, hc, hm⟩
    have HT := Aside0.mk (tmod_in hx0 HK.out)
    have HC := Aside0.mk hc
    have HM := Aside0.mk hm
    clear h hc hm
    go_wp2
    go_ret
    exact ⟨⟨x % k, Int.emod_nonneg _ (by have := HK.out; omega), Int.emod_lt_of_pos _ HK.out, rfl⟩, HC.out, HM.out⟩
  · have d1 : decide (k ≤ 256) = false := decide_eq_false h256
    clear hk hk2
    go_enter Try.func72, Try.ntmps72
    go_wp2_with fail
    refine (byte_any h).mono ?_
    rintro e W1 ⟨⟨x, hx0, hx1, rfl⟩, hc, hm⟩
    have HM := Aside0.mk hm
    clear h hm
    go_wp2_with fail
    refine (byte_any hc).mono ?_
    rintro e W2 ⟨⟨y, hy0, hy1, rfl⟩, hc2, hm⟩
    replace HM := Aside0.mk (HM.out.trans hm)
    clear hc hm
    go_wp2_with fail
    refine (byte_any hc2).mono ?_
    rintro e W3 ⟨⟨z, hz0, hz1, rfl⟩, hc3, hm⟩
    replace HM := Aside0.mk (HM.out.trans hm)
    clear hc2 hm
    go_wp2_with fail
    refine (byte_any hc3).mono ?_
    rintro e W4 ⟨⟨v, hv0, hv1, rfl⟩, hc4, hm⟩
    replace HM := Aside0.mk (HM.out.trans hm)
    have HC := Aside0.mk hc4
    clear hc3 hc4 hm
    have e1 : wrap64 (x * 16777216) = x * 16777216 := w64 _ (by omega) (by omega)
    have e2 : wrap64 (y * 65536) = y * 65536 := w64 _ (by omega) (by omega)
    have e3 : wrap64 (x * 16777216 + y * 65536) = x * 16777216 + y * 65536 := w64 _ (by omega) (by omega)
    have e4 : wrap64 (z * 256) = z * 256 := w64 _ (by omega) (by omega)
    have e5 : wrap64 (x * 16777216 + y * 65536 + z * 256) = x * 16777216 + y * 65536 + z * 256 := w64 _ (by omega) (by omega)
    have e6 : wrap64 (x * 16777216 + y * 65536 + z * 256 + v) = x * 16777216 + y * 65536 + z * 256 + v := w64 _ (by omega) (by omega)
    go_wp2
    go_ret
    exact ⟨⟨(x * 16777216 + y * 65536 + z * 256 + v) % k, Int.emod_nonneg _ (by have := HK.out; omega), Int.emod_lt_of_pos _ HK.out, by first | rfl | (simp only [e1, e2, e3, e4, e5, e6]; rfl)⟩, HC.out, HM.out⟩
theorem once_any {w0 W : World} {g n c : Nat} {A : Option Addr} {bs : List Int} (h : Cs w0 W g A n c bs) (k : Int) (hk : 0 < k) (hk2 : k ≤ 1000000) :
    Calls Try.prog 84 #[.pointer (some ⟨g, 0, none⟩), .int .i64 k] W fun e W' => (∃ x : Bool, e = .returned (.bool x)) ∧ Cs w0 W' g A n c bs ∧ Only g W W' := by
  have ct := below_any h k hk hk2
  clear h
  go_enter Try.func84, Try.ntmps84
  go_wp2_with fail
  refine ct.mono ?_
  rintro e W1 ⟨⟨x, hx0, hx1, rfl⟩, hc, hm⟩
  have HC := Aside0.mk hc
  have HM := Aside0.mk hm
  clear hc hm ct hx0 hx1
  go_wp2
  go_ret
  exact ⟨⟨_, rfl⟩, HC.out, HM.out⟩
set_option maxHeartbeats 4000000 in
set_option maxRecDepth 100000 in
theorem new_any (A : Option Addr) (n c : Nat) (bs : List Int) (w : World) (hr : (Kd.int .u8).C w A n bs) (hn : n ≤ 1048576) :
    Calls Try.prog 71 #[.slice A n c] w fun e w' => ∃ g, e = .returned (.pointer (some ⟨g, 0, none⟩)) ∧ Cs w w' g A n c bs ∧ Below w.heap.size w w' ∧ g < w'.heap.size := by
  have HR := Aside0.mk hr
  have HL := Aside0.mk hn
  have e0 : wrap64 (59059 + (n : Int)) = 59059 + (n : Int) := w64 _ (by omega) (by omega)
  clear hr hn
  go_enter Try.func71, Try.ntmps71
  go_wp2
  go_loopw [3, 4] (fun s3 s4 wr => ∃ (i : Nat) (h : Int), s3 = .int .i64 h ∧ s4 = .int .i64 (i : Int) ∧ Aside0 (i ≤ n) ∧ Aside0 (Below w.heap.size w wr)) (fun _ i _ => n - (RowKit.intOf i).toNat)
  case atStart => exact ⟨0, _, rfl, rfl, ⟨by omega⟩, ⟨Below.refl _ _⟩⟩
  case round =>
    obtain ⟨i, h, rfl, rfl, HI, HB⟩ := hrel
    by_cases hi : i < n
    · have hd : decide ((i : Int) < (n : Int)) = true := decide_eq_true (by omega)
      by_cases hj : i < 4000
      · have hd2 : decide ((i : Int) < 4000) = true := decide_eq_true (by omega)
        obtain ⟨ad, eA, hz⟩ := at_byte HR.out (i : Int) (by omega) (by omega)
        subst eA
        replace hz := (HB.out.cell (World.block_lt_of_cell? w _ hz)).trans hz
        rw [Int.toNat_natCast] at hz
        generalize rdOf 0 bs (i : Int) = bv at hz
        have e1 : wrap64 ((i : Int) + 1) = ((i + 1 : Nat) : Int) := by rw [w64 _ (by omega) (by have := HL.out; omega)]; omega
        go_wp2
        exact ⟨⟨i + 1, _, rfl, congrArg (Value.int .i64) (by first | exact e1 | omega), ⟨by omega⟩, HB⟩, by (try rw [e1]); simp [RowKit.intOf]; omega⟩
      · have hd2 : decide ((i : Int) < 4000) = false := decide_eq_false (by omega)
        go_wp2
        go_ret
        exact ⟨_, rfl, ⟨HR.out, HB.out.alloc HB.out.size _, HB.out.size, 0, h, by omega, Blk.new _ _ _⟩, HB.out.alloc HB.out.size _, by simp⟩
    · have hd : decide ((i : Int) < (n : Int)) = false := decide_eq_false (by omega)
      go_wp2
      go_ret
      exact ⟨_, rfl, ⟨HR.out, HB.out.alloc HB.out.size _, HB.out.size, 0, h, by omega, Blk.new _ _ _⟩, HB.out.alloc HB.out.size _, by simp⟩
end Go.Proofs.Ytphfmcdkldcmiaa.Cu
/- Floats in a walk: every operation runs, a NaN's bits being asked of the tape; two floats are alike if their bits are the same or both are NaNs; operations and comparisons keep that. -/
namespace Go.Proofs.Ytphfmcdkldcmiaa.Fl
open Go Go.RowKit

/-- Is it a NaN? -/
def nanB (k : FloatKind) (x : Nat) : Bool := (k.decode x).isNaN
/-- The same bits, or both a NaN. -/
def Same (k : FloatKind) (x y : Nat) : Prop := x = y ∨ (nanB k x = true ∧ nanB k y = true)
theorem Same.refl (k : FloatKind) (x : Nat) : Same k x x := .inl rfl
theorem Same.symm {k : FloatKind} {x y : Nat} (h : Same k x y) : Same k y x := by
  rcases h with h | h
  · exact .inl h.symm
  · exact .inr ⟨h.2, h.1⟩
theorem Same.trans {k : FloatKind} {x y z : Nat} (h : Same k x y) (h' : Same k y z) : Same k x z := by
  rcases h with rfl | h
  · exact h'
  · rcases h' with rfl | h'
    · exact .inr h
    · exact .inr ⟨h.1, h'.2⟩

theorem read_nan {k : FloatKind} {x : Nat} (h : nanB k x = true) : ∃ s t, k.format.read x = .nan s t := by
  have h' : (k.format.read x).isNaN = true := h
  cases hd : k.format.read x with
  | nan s t => exact ⟨s, t, rfl⟩
  | number s m e => rw [hd] at h'; cases h'
  | infinity s => rw [hd] at h'; cases h'

/-! ### Order -/
theorem order_nan_l {k : FloatKind} {x : Nat} (y : Nat) (h : nanB k x = true) : k.format.order x y = none := by
  obtain ⟨s, t, e⟩ := read_nan h
  unfold Ieee.Format.order
  rw [e]
  rfl
theorem order_nan_r {k : FloatKind} {y : Nat} (x : Nat) (h : nanB k y = true) : k.format.order x y = none := by
  obtain ⟨s, t, e⟩ := read_nan h
  unfold Ieee.Format.order
  rw [e]
  cases k.format.read x <;> rfl
theorem order_same {k : FloatKind} {x x' y y' : Nat} (hx : Same k x x') (hy : Same k y y') : k.format.order x y = k.format.order x' y' := by
  rcases hx with rfl | hx
  · rcases hy with rfl | hy
    · rfl
    · rw [order_nan_r _ hy.1, order_nan_r _ hy.2]
  · rw [order_nan_l _ hx.1, order_nan_l _ hx.2]
theorem order_self {k : FloatKind} {x : Nat} (h : nanB k x = false) : k.format.order x x = some .eq := by
  have h' : (k.format.read x).isNaN = false := h
  unfold Ieee.Format.order
  cases hd : k.format.read x with
  | nan s t => rw [hd] at h'; cases h'
  | number s m e => simp [Ieee.Datum.order, compare, compareOfLessAndEq]
  | infinity s => cases s <;> rfl
theorem order_self_eq (k : FloatKind) (x : Nat) : (k.format.order x x == some .eq) = !(nanB k x) := by
  cases h : nanB k x with
  | true => rw [order_nan_l _ h]; rfl
  | false => rw [order_self h]; rfl
theorem order_self_ne (k : FloatKind) (x : Nat) : (k.format.order x x != some .eq) = nanB k x := by
  cases h : nanB k x with
  | true => rw [order_nan_l _ h]; rfl
  | false => rw [order_self h]; rfl

/-! ### + - * / -/
theorem bits_nan_l {op : BinOp} {k : FloatKind} {x : Nat} (y : Nat) (h : nanB k x = true) : floatBits op k x y = none := by
  obtain ⟨s, t, e⟩ := read_nan h
  unfold floatBits
  split <;> simp only [Ieee.Format.add, Ieee.Format.sub, Ieee.Format.mul, Ieee.Format.div, e] <;> rfl
theorem bits_nan_r {op : BinOp} {k : FloatKind} {y : Nat} (x : Nat) (h : nanB k y = true) : floatBits op k x y = none := by
  obtain ⟨s, t, e⟩ := read_nan h
  unfold floatBits
  split <;> simp only [Ieee.Format.add, Ieee.Format.sub, Ieee.Format.mul, Ieee.Format.div, e] <;> (cases k.format.read x <;> rfl)
theorem bits_same {op : BinOp} {k : FloatKind} {x x' y y' : Nat} (hx : Same k x x') (hy : Same k y y') : floatBits op k x y = floatBits op k x' y' := by
  rcases hx with rfl | hx
  · rcases hy with rfl | hy
    · rfl
    · rw [bits_nan_r _ hy.1, bits_nan_r _ hy.2]
  · rw [bits_nan_l _ hx.1, bits_nan_l _ hx.2]

/-- What an operation gives in the world w. -/
def fAr (op : BinOp) (k : FloatKind) (x y : Nat) (w : World) : Nat := (floatBits op k x y).getD ((Question.nanBits k x y).cut (w.tape w.drawn (.nanBits k x y)))
/-- How many draws it makes. -/
def fN (op : BinOp) (k : FloatKind) (x y : Nat) : Nat := if (floatBits op k x y).isSome then 0 else 1
/-- What it gives, one NaN standing for all. -/
def qnan (k : FloatKind) : Nat := match k with | .f32 => 0x7fc00000 | .f64 => 0x7ff8000000000000
def fP (op : BinOp) (k : FloatKind) (x y : Nat) : Nat := (floatBits op k x y).getD (qnan k)

theorem nan_of_rung (k : FloatKind) (neg : Bool) (f : Nat) (h0 : 0 < f) (h1 : f < k.format.binade) (hk : 1 ≤ k.format.exponentBits) : (k.format.read (k.format.word neg (k.format.infRung + f))).isNaN = true := by
  have hr := k.format.infRung_add_binade
  have hlt : k.format.infRung + f < k.format.signWeight := by omega
  have hmod : k.format.word neg (k.format.infRung + f) % k.format.signWeight = k.format.infRung + f := by
    unfold Ieee.Format.word
    split
    · rw [Nat.add_mod_left, Nat.mod_eq_of_lt hlt]
    · rw [Nat.mod_eq_of_lt hlt]
  have hb : k.format.binade ≤ k.format.infRung := by
    have h2 : 2 ^ 1 ≤ 2 ^ k.format.exponentBits := Nat.pow_le_pow_right (by omega) hk
    unfold Ieee.Format.infRung
    exact Nat.le_mul_of_pos_left _ (by omega)
  unfold Ieee.Format.read
  simp only [hmod]
  rw [if_neg (by omega), if_neg (by omega), if_neg (by omega)]
  rfl

theorem nan_f32 (a f : Nat) (ha : a < 2) (hf : f < 2 ^ 23 - 1) : nanB .f32 (a * 2 ^ 31 + 0x7f800000 + 1 + f) = true := by
  have h := nan_of_rung .f32 (a == 1) (1 + f) (by omega) (show 1 + f < 2 ^ 23 by omega) (by decide)
  have e : FloatKind.f32.format.word (a == 1) (FloatKind.f32.format.infRung + (1 + f)) = a * 2 ^ 31 + 0x7f800000 + 1 + f := by
    have e1 : FloatKind.f32.format.infRung = 0x7f800000 := by decide
    have e2 : FloatKind.f32.format.signWeight = 2 ^ 31 := by decide
    unfold Ieee.Format.word
    rw [e1, e2]
    rcases Nat.lt_or_ge a 1 with h | h
    · obtain rfl : a = 0 := by omega
      simp; omega
    · obtain rfl : a = 1 := by omega
      simp; omega
  rw [e] at h
  exact h
theorem nan_f64 (a f : Nat) (ha : a < 2) (hf : f < 2 ^ 52 - 1) : nanB .f64 (a * 2 ^ 63 + 0x7ff0000000000000 + 1 + f) = true := by
  have h := nan_of_rung .f64 (a == 1) (1 + f) (by omega) (show 1 + f < 2 ^ 52 by omega) (by decide)
  have e : FloatKind.f64.format.word (a == 1) (FloatKind.f64.format.infRung + (1 + f)) = a * 2 ^ 63 + 0x7ff0000000000000 + 1 + f := by
    have e1 : FloatKind.f64.format.infRung = 0x7ff0000000000000 := by decide
    have e2 : FloatKind.f64.format.signWeight = 2 ^ 63 := by decide
    unfold Ieee.Format.word
    rw [e1, e2]
    rcases Nat.lt_or_ge a 1 with h | h
    · obtain rfl : a = 0 := by omega
      simp; omega
    · obtain rfl : a = 1 := by omega
      simp; omega
  rw [e] at h
  exact h
theorem nan_bits (k : FloatKind) (x y t : Nat) : nanB k ((Question.nanBits k x y).cut t) = true := by
  cases k
  · exact nan_f32 _ _ (by omega) (by omega)
  · exact nan_f64 _ _ (by omega) (by omega)
theorem nan_conv (k : FloatKind) (x t : Nat) : nanB k ((Question.nanConv k x).cut t) = true := by
  cases k
  · exact nan_f32 _ _ (by omega) (by omega)
  · exact nan_f64 _ _ (by omega) (by omega)
theorem nan_q (k : FloatKind) : nanB k (qnan k) = true := by cases k <;> decide

theorem fAr_same {op : BinOp} {k : FloatKind} {x x' y y' : Nat} (hx : Same k x x') (hy : Same k y y') (w : World) : Same k (fAr op k x y w) (fP op k x' y') := by
  unfold fAr fP
  rw [bits_same hx hy]
  cases floatBits op k x' y' with
  | some r => exact .inl rfl
  | none => exact .inr ⟨nan_bits _ _ _ _, nan_q _⟩
theorem fP_same {op : BinOp} {k : FloatKind} {x x' y y' : Nat} (hx : Same k x x') (hy : Same k y y') : fP op k x y = fP op k x' y' := by
  unfold fP
  rw [bits_same hx hy]

section
variable {P : Program}
theorem run_choose_nan (w : World) (k : FloatKind) (x y : Nat) : (choose (.nanBits k x y)).run P w = .ok ((Question.nanBits k x y).cut (w.tape w.drawn (.nanBits k x y))) (w.drewN 1) := by
  simp only [choose, Sem.run, Question.forced]
  rfl
theorem run_choose_conv (w : World) (k : FloatKind) (x : Nat) : (choose (.nanConv k x)).run P w = .ok ((Question.nanConv k x).cut (w.tape w.drawn (.nanConv k x))) (w.drewN 1) := by
  simp only [choose, Sem.run, Question.forced]
  rfl
theorem run_arith (op : BinOp) (hop : op = .add ∨ op = .sub ∨ op = .mul ∨ op = .quo) (w : World) (t : TypeId) (k : FloatKind) (x y : Nat) :
    (binOp op t (.float k x) (.float k y)).run P w = .ok (.float k (fAr op k x y w)) (w.drewN (fN op k x y)) := by
  unfold fAr fN
  cases h : floatBits op k x y with
  | some r => exact run_float_arith w op t k x y r h
  | none =>
    unfold floatBits at h
    rcases hop with rfl | rfl | rfl | rfl <;> simp only at h <;> (simp [binOp, Op.floatArith, h]; rfl)
@[go_sem] theorem run_fadd (w : World) (t : TypeId) (k : FloatKind) (x y : Nat) : (binOp .add t (.float k x) (.float k y)).run P w = .ok (.float k (fAr .add k x y w)) (w.drewN (fN .add k x y)) := run_arith .add (.inl rfl) w t k x y
@[go_sem] theorem run_fsub (w : World) (t : TypeId) (k : FloatKind) (x y : Nat) : (binOp .sub t (.float k x) (.float k y)).run P w = .ok (.float k (fAr .sub k x y w)) (w.drewN (fN .sub k x y)) := run_arith .sub (.inr (.inl rfl)) w t k x y
@[go_sem] theorem run_fmul (w : World) (t : TypeId) (k : FloatKind) (x y : Nat) : (binOp .mul t (.float k x) (.float k y)).run P w = .ok (.float k (fAr .mul k x y w)) (w.drewN (fN .mul k x y)) := run_arith .mul (.inr (.inr (.inl rfl))) w t k x y
theorem run_fquo (w : World) (t : TypeId) (k : FloatKind) (x y : Nat) : (binOp .quo t (.float k x) (.float k y)).run P w = .ok (.float k (fAr .quo k x y w)) (w.drewN (fN .quo k x y)) := run_arith .quo (.inr (.inr (.inr rfl))) w t k x y
end

/-! ### float64(x) of a float32: no number is too great -/
/-- What the conversion gives, one NaN standing for all. -/
def gP (x : Nat) : Nat := match FloatKind.f32.decode x with
  | .nan _ _ => qnan .f64
  | d => FloatKind.f64.encode d
def gW (x : Nat) (w : World) : Nat := if nanB .f32 x then (Question.nanConv .f64 x).cut (w.tape w.drawn (.nanConv .f64 x)) else gP x
def gN (x : Nat) : Nat := if nanB .f32 x then 1 else 0
theorem gP_same {x x' : Nat} (h : Same .f32 x x') : gP x = gP x' := by
  rcases h with rfl | h
  · rfl
  · obtain ⟨s, t, e⟩ := read_nan h.1
    obtain ⟨s', t', e'⟩ := read_nan h.2
    have e1 : FloatKind.f32.decode x = .nan s t := e
    have e2 : FloatKind.f32.decode x' = .nan s' t' := e'
    unfold gP
    rw [e1, e2]
theorem gW_same {x x' : Nat} (h : Same .f32 x x') (w : World) : Same .f64 (gW x w) (gP x') := by
  rw [← gP_same h]
  unfold gW
  cases hn : nanB .f32 x with
  | true =>
    obtain ⟨s, t, e⟩ := read_nan hn
    have e1 : FloatKind.f32.decode x = .nan s t := e
    have e2 : gP x = qnan .f64 := by unfold gP; rw [e1]
    rw [e2, if_pos rfl]
    exact .inr ⟨nan_conv .f64 x _, nan_q _⟩
  | false => exact .inl rfl

/-- The word of a number whose rung is below infinity's is no infinity. -/
theorem word_finite (f : Ieee.Format) (neg : Bool) (r : Nat) (h : r < f.infRung) : (f.read (f.word neg r)).isInfinity = false := by
  have hlt : r < f.signWeight := Nat.lt_trans h f.infRung_lt
  have hmod : f.word neg r % f.signWeight = r := by
    unfold Ieee.Format.word
    split
    · rw [Nat.add_mod_left, Nat.mod_eq_of_lt hlt]
    · rw [Nat.mod_eq_of_lt hlt]
  unfold Ieee.Format.read
  simp only [hmod]
  by_cases hb : r < f.binade
  · rw [if_pos hb]; rfl
  · rw [if_neg hb, if_pos h]; rfl

/-- A float32's number: its digits and its place. -/
theorem f32_number {x : Nat} {s : Bool} {m : Nat} {e : Int} (h : FloatKind.f32.decode x = .number s m e) : m < 2 ^ 24 ∧ -149 ≤ e ∧ e ≤ 104 := by
  have hb : FloatKind.f32.format.binade = 2 ^ 23 := rfl
  have hi : FloatKind.f32.format.infRung = 255 * 2 ^ 23 := rfl
  have hp : FloatKind.f32.format.leastPlace = -149 := rfl
  have h' : FloatKind.f32.format.read x = .number s m e := h
  unfold Ieee.Format.read at h'
  simp only [hb, hi, hp] at h'
  split at h'
  · cases h'; omega
  · split at h'
    · cases h'; omega
    · split at h' <;> cases h'

theorem cut_zero (way : Ieee.Toward) (neg : Bool) (n : Nat) : way.cut neg n 0 = n := by
  unfold Ieee.Toward.cut
  have : (1 <<< min 0 (n.log2 + 2)) = 1 := by simp
  simp only [this, Nat.div_one, Nat.mod_one]
  cases way <;> simp

theorem log2_lt24 {m : Nat} (h0 : m ≠ 0) (h : m < 2 ^ 24) : m.log2 < 24 := (Nat.log2_lt h0).2 h

theorem f64_near (B q k : Nat) (_hB : 0 < B) (hq : q ≤ 1149) (hk : k < 2 * B) : q * B + k < 2047 * B := by
  have := Nat.mul_le_mul_right B hq
  omega
theorem nearest_f64 (s : Bool) (m : Nat) (e : Int) (hm : m < 2 ^ 24) (he : -149 ≤ e ∧ e ≤ 104) : ∃ r, r < FloatKind.f64.format.infRung ∧ FloatKind.f64.encode (.number s m e) = FloatKind.f64.format.word s r := by
  have hi : FloatKind.f64.format.infRung = 2047 * 2 ^ 52 := rfl
  have hb : FloatKind.f64.format.binade = 2 ^ 52 := rfl
  have hp : FloatKind.f64.format.leastPlace = -1074 := rfl
  have hf : (FloatKind.f64.format.fractionBits : Int) = 52 := rfl
  show ∃ r, r < _ ∧ FloatKind.f64.format.nearest s m e = _
  unfold Ieee.Format.nearest
  by_cases h0 : m = 0
  · rw [if_pos h0]; exact ⟨0, by rw [hi]; decide, rfl⟩
  · rw [if_neg h0]
    have hl := log2_lt24 h0 hm
    simp only [hb, hi, hp, hf]
    have hmax : max (e + (m.log2 : Int) - 52) (-1074) = e + m.log2 - 52 := by omega
    rw [hmax]
    have h1 : (e - (e + (m.log2 : Int) - 52)).toNat = 52 - m.log2 := by omega
    have h2 : ((e + (m.log2 : Int) - 52) - e).toNat = 0 := by omega
    rw [h1, h2, cut_zero]
    refine ⟨_, ?_, rfl⟩
    have hk : m <<< (52 - m.log2) < 2 * 2 ^ 52 := by
      rw [Nat.shiftLeft_eq]
      have hml : m < 2 ^ (m.log2 + 1) := Nat.lt_log2_self
      calc m * 2 ^ (52 - m.log2) < 2 ^ (m.log2 + 1) * 2 ^ (52 - m.log2) := Nat.mul_lt_mul_of_pos_right hml (Nat.two_pow_pos _)
        _ = 2 ^ (1 + 52) := by rw [← Nat.pow_add, show m.log2 + 1 + (52 - m.log2) = 1 + 52 by omega]
        _ = 2 * 2 ^ 52 := by rw [Nat.pow_add, Nat.pow_one]
    have hq : (e + (m.log2 : Int) - 52 - -1074).toNat ≤ 1149 := by omega
    exact Nat.lt_of_le_of_lt (Nat.min_le_left ..) (f64_near (2 ^ 52) _ _ (Nat.two_pow_pos 52) hq hk)

section
variable {P : Program}
@[go_sem] theorem run_great (w : World) (src dst : TypeId) (x : Nat) (hs : P.underlying src = some (.float .f32)) (hd : P.underlying dst = some (.float .f64)) :
    (convert src dst (.float .f32 x)).run P w = .ok (.float .f64 (gW x w)) (w.drewN (gN x)) := by
  cases h : FloatKind.f32.decode x with
  | nan s t =>
    have hn : nanB .f32 x = true := by unfold nanB; rw [h]; rfl
    simp [convert, run_underlying hs, run_underlying hd, Conv.floatToFloat, h, gW, gN, hn]
    rfl
  | infinity s =>
    have hn : nanB .f32 x = false := by unfold nanB; rw [h]; rfl
    simp [convert, run_underlying hs, run_underlying hd, Conv.floatToFloat, h, gW, gN, hn, gP, World.drewN_zero]
  | number s m e =>
    have hn : nanB .f32 x = false := by unfold nanB; rw [h]; rfl
    obtain ⟨hm, he⟩ := f32_number h
    obtain ⟨r, hr, hw⟩ := nearest_f64 s m e hm he
    have hinf : (FloatKind.f64.decode (FloatKind.f64.encode (.number s m e))).isInfinity = false := by
      rw [hw]; exact word_finite _ _ _ hr
    simp [convert, run_underlying hs, run_underlying hd, Conv.floatToFloat, h, gW, gN, hn, gP, World.drewN_zero, hinf]
end

/-! ### 1/x of what is no NaN -/
theorem quo_one {a : Nat} (h : nanB .f64 a = false) : ∃ r, floatBits .quo .f64 4607182418800017408 a = some r := by
  have h' : (FloatKind.f64.format.read a).isNaN = false := h
  have h1 : FloatKind.f64.format.read 4607182418800017408 = .number false 4503599627370496 (-52) := by decide
  show ∃ r, FloatKind.f64.format.div 4607182418800017408 a = some r
  unfold Ieee.Format.div
  rw [h1]
  cases hd : FloatKind.f64.format.read a with
  | nan s t => rw [hd] at h'; cases h'
  | infinity s => exact ⟨_, rfl⟩
  | number s m e =>
    simp only [Ieee.Datum.quotient]
    by_cases h0 : m = 0
    · rw [if_pos h0, if_neg (by decide)]; exact ⟨_, rfl⟩
    · rw [if_neg h0]; exact ⟨_, rfl⟩

@[go_sem] theorem run_store_float {P : Program} (w : World) (a : Addr) (m : Mode) (k : FloatKind) (b : Nat) : (store a (.float k b) m).run P w = stored P w a (.float k b) m := run_store P w a _ m rfl

@[go_sem] theorem unary_fneg (k : FloatKind) (b : Nat) : Op.unary .neg (.float k b) = pure (.float k (Op.negFloat k b)) := rfl

/-- The end of a body whose result lies in memory. -/
theorem ret_val {P : Program} {fn : Func} {R : Ending → World → Prop} {a : Act} {w : World} (h : ∃ v, (results fn a.tmps).run P w = .ok v w ∧ R (.returned v) w) (hd : a.defers = []) : bodyPost P fn R .ret a w :=
  let ⟨_, hr, hR⟩ := h
  bodyPost_ret hr hd hR

/-! ### The world -/
@[go_sem] theorem alloc_drewN (w : World) (n : Nat) (o : Obj) : (w.drewN n).alloc o = (w.alloc o).drewN n := rfl
@[go_sem] theorem setCell_drewN (w : World) (n : Nat) (a : Addr) (v : Value) : (w.drewN n).setCell a v = (w.setCell a v).drewN n := by
  unfold World.setCell World.drewN; rfl
theorem below_drewN {B : Nat} {w w' : World} (h : Below B w w') (n : Nat) : Below B w (w'.drewN n) := ⟨h.os, h.tape, h.output, h.size, h.block⟩
theorem below_al {w W : World} (h : Below w.heap.size w W) (o : Obj) : Below w.heap.size w (W.alloc o) := h.alloc h.size o
theorem below_st {w W : World} {p : Addr} (h : Below w.heap.size w W) (hp : w.heap.size ≤ p.block) (v : Value) : Below w.heap.size w (W.setCell p v) := h.setCell hp v
theorem cell_al {W : World} {a : Addr} {v : Value} (h : W.cell? a = some v) (o : Obj) : (W.alloc o).cell? a = some v := by
  rw [World.cell?_alloc_some W a o (by rw [h]; rfl), h]
theorem cell_st {W : World} {p a : Addr} {v u : Value} (hp : p.block ≠ a.block) (h : W.cell? a = some v) : (W.setCell p u).cell? a = some v := by
  rw [World.cell?_setCell_far W p a u hp, h]
theorem heap_alloc_at (w : World) (g : Nat) (o : Obj) (h : g = w.heap.size) : (w.alloc o).heap[g]? = some o := by
  subst h
  exact heap_alloc_new w o
theorem blk_cell {w : World} {g : Nat} {cs : Array Value} {t : TypeId} {fr : Nat × Nat} (h : w.heap[g]? = some (.cells cs t fr)) (i : Nat) : w.cell? ⟨g, i, none⟩ = cs[i]? := by simp [World.cell?, h]
theorem blk_free {w : World} {g : Nat} {cs : Array Value} {t : TypeId} (h : w.heap[g]? = some (.cells cs t (0, 0))) (i : Nat) : w.frozen? ⟨g, i, none⟩ = false := by simp [World.frozen?, h]
/-- Two floats, alike to x and y. -/
def PairOf (k : FloatKind) (x y : Nat) (w : World) (e : Ending) (w' : World) : Prop := ∃ r i, e = .returned (.agg #[.float k r, .float k i]) ∧ Same k r x ∧ Same k i y ∧ Below w.heap.size w w'
/-- After a call that makes memory of its own, what was there stands. -/
theorem below_cells {W w1 : World} (hb : Below W.heap.size W w1) : (∀ b o, b < W.heap.size → w1.cell? ⟨b, o, none⟩ = W.cell? ⟨b, o, none⟩) ∧ (∀ b o, b < W.heap.size → w1.frozen? ⟨b, o, none⟩ = W.frozen? ⟨b, o, none⟩) :=
  ⟨fun b o h => hb.cell (p := ⟨b, o, none⟩) h, fun b o h => hb.frozen (p := ⟨b, o, none⟩) h⟩
end Go.Proofs.Ytphfmcdkldcmiaa.Fl
/- Contracts of the functions over floats. -/
namespace Go.Proofs.Ytphfmcdkldcmiaa.Fl
open Go Go.RowKit
set_option linter.unusedVariables false
set_option linter.unusedSimpArgs false

theorem toWave_any (a b : Nat) (w : World) : Calls Try.prog 15 #[.agg #[.float .f64 a, .float .f64 b]] w fun e w' => e = .returned (.agg #[.float .f64 a, .float .f64 b]) ∧ Below w.heap.size w w' := by
  go_enter Try.func15, Try.ntmps15
  go_wp2
  all_goals exact bodyPost_ret (v := .agg #[.float .f64 a, .float .f64 b]) (by simp [results, Try.results15, go_sem]) rfl ⟨rfl, (by repeat (first | exact Below.refl _ _ | apply below_al | apply below_drewN | refine below_st ?_ (by simp; try omega) _))⟩

theorem toSmall_any (a b : Nat) (w : World) : Calls Try.prog 65 #[.agg #[.float .f32 a, .float .f32 b]] w fun e w' => e = .returned (.agg #[.float .f32 a, .float .f32 b]) ∧ Below w.heap.size w w' := by
  go_enter Try.func65, Try.ntmps65
  go_wp2
  all_goals exact bodyPost_ret (v := .agg #[.float .f32 a, .float .f32 b]) (by simp [results, Try.results65, go_sem]) rfl ⟨rfl, (by repeat (first | exact Below.refl _ _ | apply below_al | apply below_drewN | refine below_st ?_ (by simp; try omega) _))⟩

theorem AddSmall_spec (a b c d : Nat) (w : World) : Calls Try.prog 63 #[.agg #[.float .f32 a, .float .f32 b], .agg #[.float .f32 c, .float .f32 d]] w (PairOf .f32 (fP .add .f32 a c) (fP .add .f32 b d) w) := by
  go_enter Try.func63, Try.ntmps63
  go_wp2
  all_goals (refine ret_val ?_ rfl; simp [results, Try.results63, go_sem]; exact ⟨_, _, rfl, fAr_same (Same.refl _ _) (Same.refl _ _) _, fAr_same (Same.refl _ _) (Same.refl _ _) _, (by repeat (first | exact Below.refl _ _ | apply below_al | apply below_drewN | refine below_st ?_ (by simp; try omega) _))⟩)

theorem AddSmall_impl (a b c d : Nat) (w : World) : Calls Try.prog 52 #[.agg #[.float .f32 a, .float .f32 b], .agg #[.float .f32 c, .float .f32 d]] w (PairOf .f32 (fP .add .f32 a c) (fP .add .f32 b d) w) := by
  go_enter Try.func52, Try.ntmps52
  go_wp2
  all_goals (refine ret_val ?_ rfl; simp [results, Try.results52, go_sem]; exact ⟨_, _, rfl, fAr_same (Same.refl _ _) (Same.refl _ _) _, fAr_same (Same.refl _ _) (Same.refl _ _) _, (by repeat (first | exact Below.refl _ _ | apply below_al | apply below_drewN | refine below_st ?_ (by simp; try omega) _))⟩)

theorem great_spec (a b : Nat) (w : World) : Calls Try.prog 64 #[.agg #[.float .f32 a, .float .f32 b]] w (PairOf .f64 (gP a) (gP b) w) := by
  have u32 := Try.underlying36
  have u64 := Try.underlying23
  go_enter Try.func64, Try.ntmps64
  go_wp2
  all_goals (refine ret_val ?_ rfl; simp [results, Try.results64, go_sem]; exact ⟨_, _, rfl, gW_same (Same.refl _ _) _, gW_same (Same.refl _ _) _, (by repeat (first | exact Below.refl _ _ | apply below_al | apply below_drewN | refine below_st ?_ (by simp; try omega) _))⟩)

theorem great_impl (a b : Nat) (w : World) : Calls Try.prog 49 #[.agg #[.float .f32 a, .float .f32 b]] w (PairOf .f64 (gP a) (gP b) w) := by
  have u32 := Try.underlying36
  have u64 := Try.underlying23
  go_enter Try.func49, Try.ntmps49
  go_wp2
  all_goals (refine ret_val ?_ rfl; simp [results, Try.results49, go_sem]; exact ⟨_, _, rfl, gW_same (Same.refl _ _) _, gW_same (Same.refl _ _) _, (by repeat (first | exact Below.refl _ _ | apply below_al | apply below_drewN | refine below_st ?_ (by simp; try omega) _))⟩)

theorem by_any (a b : Nat) (w : World) : Calls Try.prog 62 #[.float .f64 a, .float .f64 b] w fun e w' => e = .returned (.float .f64 (fAr .mul .f64 a b w)) ∧ w.drewN (fN .mul .f64 a b) = w' := by
  go_enter Try.func62, Try.ntmps62
  go_wp2
  all_goals (go_ret; exact ⟨rfl, rfl⟩)

theorem addWave_any (a b c d : Nat) (w : World) : Calls Try.prog 61 #[.agg #[.float .f64 a, .float .f64 b], .agg #[.float .f64 c, .float .f64 d]] w (PairOf .f64 (fP .add .f64 a c) (fP .add .f64 b d) w) := by
  go_enter Try.func61, Try.ntmps61
  go_wp2
  all_goals (refine ret_val ?_ rfl; simp [results, Try.results61, go_sem]; exact ⟨_, _, rfl, fAr_same (Same.refl _ _) (Same.refl _ _) _, fAr_same (Same.refl _ _) (Same.refl _ _) _, (by repeat (first | exact Below.refl _ _ | apply below_al | apply below_drewN | refine below_st ?_ (by simp; try omega) _))⟩)

theorem times_spec (a b c d : Nat) (w : World) : Calls Try.prog 60 #[.agg #[.float .f64 a, .float .f64 b], .agg #[.float .f64 c, .float .f64 d]] w (PairOf .f64 (fP .sub .f64 (fP .mul .f64 a c) (fP .mul .f64 b d)) (fP .add .f64 (fP .mul .f64 a d) (fP .mul .f64 b c)) w) := by
  go_enter Try.func60, Try.ntmps60
  go_wp2
  all_goals (refine ret_val ?_ rfl; simp [results, Try.results60, go_sem]; exact ⟨_, _, rfl, fAr_same (fAr_same (Same.refl _ _) (Same.refl _ _) _) (fAr_same (Same.refl _ _) (Same.refl _ _) _) _, fAr_same (fAr_same (Same.refl _ _) (Same.refl _ _) _) (fAr_same (Same.refl _ _) (Same.refl _ _) _) _, (by repeat (first | exact Below.refl _ _ | apply below_al | apply below_drewN | refine below_st ?_ (by simp; try omega) _))⟩)

theorem sameFloat_any {a b : Nat} (h : Same .f64 a b) (w : World) : Calls Try.prog 29 #[.float .f64 a, .float .f64 b] w fun e w' => e = .returned (.bool true) ∧ ∃ n, w' = w.drewN n := by
  cases hn : nanB .f64 a with
  | true =>
    have hb : nanB .f64 b = true := by
      rcases h with rfl | h
      · exact hn
      · exact h.2
    have h1 := order_nan_l a hn
    have h2 := order_nan_l b hb
    clear h hn hb
    go_enter Try.func29, Try.ntmps29
    go_wp2
    all_goals (go_ret; exact ⟨rfl, 0, rfl⟩)
  | false =>
    obtain rfl : a = b := by
      rcases h with h | h
      · exact h
      · rw [h.1] at hn; cases hn
    have h1 := order_self hn
    obtain ⟨r, hr⟩ := quo_one hn
    have hq := fun (w : World) (t : TypeId) => run_float_arith (P := Try.prog) w .quo t .f64 4607182418800017408 a r hr
    clear h hn hr
    go_enter Try.func29, Try.ntmps29
    go_wp2
    all_goals (go_ret; exact ⟨by simp, 0, rfl⟩)

theorem eqWave_any {a b c d : Nat} (h1 : Same .f64 a c) (h2 : Same .f64 b d) (w : World) : Calls Try.prog 17 #[.agg #[.float .f64 a, .float .f64 b], .agg #[.float .f64 c, .float .f64 d]] w fun e w' => e = .returned (.bool true) ∧ Below w.heap.size w w' := by
  go_enter Try.func17, Try.ntmps17
  go_wp2_with (go_at_call 29; first | ((with_reducible refine (sameFloat_any h1 _).mono ?_); rintro e w' ⟨rfl, n, rfl⟩) | ((with_reducible refine (sameFloat_any h2 _).mono ?_); rintro e w' ⟨rfl, n, rfl⟩))
  all_goals (go_ret; exact ⟨rfl, (by repeat (first | exact Below.refl _ _ | apply below_al | apply below_drewN | refine below_st ?_ (by simp; try omega) _))⟩)

theorem eqSmall_any {a b c d : Nat} (h1 : Same .f32 a c) (h2 : Same .f32 b d) (w : World) : Calls Try.prog 23 #[.agg #[.float .f32 a, .float .f32 b], .agg #[.float .f32 c, .float .f32 d]] w fun e w' => e = .returned (.bool true) ∧ Below w.heap.size w w' := by
  have u32 := Try.underlying36
  have u64 := Try.underlying23
  have g1 := fun w w' : World => (gW_same h1 w).trans (gW_same (Same.refl _ c) w').symm
  have g2 := fun w w' : World => (gW_same h2 w).trans (gW_same (Same.refl _ d) w').symm
  go_enter Try.func23, Try.ntmps23
  go_wp2_with (go_at_call 29; first | ((with_reducible refine (sameFloat_any (g1 _ _) _).mono ?_); rintro e w' ⟨rfl, n, rfl⟩) | ((with_reducible refine (sameFloat_any (g2 _ _) _).mono ?_); rintro e w' ⟨rfl, n, rfl⟩))
  all_goals (go_ret; exact ⟨rfl, (by repeat (first | exact Below.refl _ _ | apply below_al | apply below_drewN | refine below_st ?_ (by simp; try omega) _))⟩)

end Go.Proofs.Ytphfmcdkldcmiaa.Fl
/- Rows of floats: copied, compared, marked. -/
namespace Go.Proofs.Ytphfmcdkldcmiaa.Fl
open Go Go.RowKit Go.Proofs.YtphfmcdkldcmiaaW.PrintWords Go.Proofs.YtphfmcdkldcmiaaW.PrintLast Go.Proofs.YtphfmcdkldcmiaaW.PrintMore
set_option linter.unusedVariables false
set_option linter.unusedSimpArgs false
abbrev kf : Kd Nat := Kd.scalar (Value.float .f64) (fun _ => rfl)
abbrev rf (l : List Nat) (i : Int) : Nat := rdOf 0 l i
theorem at_float {w : World} {A : Option Addr} {n : Nat} {xs : List Nat} (h : kf.C w A n xs) (i : Int) (h0 : 0 ≤ i) (h1 : i < n) : ∃ ad, A = some ad ∧ w.cell? (ad.add i.toNat) = some (.float .f64 (rf xs i)) :=
  ReadsOf.at_ (Kd.reads_of_C (enc := Value.float .f64) (d := (0 : Nat)) (h1 := fun _ => rfl) h) i h0 h1
theorem at_fn {w : World} {A : Option Addr} {n : Nat} {xs : List Nat} (h : kf.C w A n xs) (i : Nat) (h1 : i < n) : ∃ ad, A = some ad ∧ w.cell? (ad.add i) = some (.float .f64 (rf xs i)) := at_float h i (by omega) (by omega)
section
variable {α : Type} {enc : α → Value} {h1 : ∀ x, (enc x).oneCell' = true} {e base g n cap : Nat} {ok : Nat → Prop} {xs : List α} {W : World}
theorem R_cellN (d : α) (h : (Kd.scalar enc h1).R e W base ok (.slice (some ⟨g, 0, none⟩) n cap) xs) (i : Nat) (hi : i < n) : W.cell? ⟨g, i, none⟩ = some (enc (rdOf d xs i)) ∧ W.frozen? ⟨g, i, none⟩ = false := Kd.R_celln d h i (by omega) (by omega)
theorem R_putN (h : (Kd.scalar enc h1).R e W base ok (.slice (some ⟨g, 0, none⟩) n cap) xs) (i : Nat) (x : α) : (Kd.scalar enc h1).R e (W.setCell ⟨g, i, none⟩ (enc x)) base ok (.slice (some ⟨g, 0, none⟩) n cap) (xs.set i x) ∧ W.grownBy (W.setCell ⟨g, i, none⟩ (enc x)) (some g) := Kd.R_putg h i x
end
theorem wk {i n : Nat} (h : i < n) (hn : n ≤ 9223372036854775807) : wrap64 ((i : Int) + 1) = ((i + 1 : Nat) : Int) := by
  unfold wrap64
  omega
/-- The same up to n. -/
def Upto (n : Nat) (B P : List Nat) : Prop := B.length = P.length ∧ ∀ j : Nat, j < n → Same .f64 (rf B j) (rf P j)
theorem Upto.set {n : Nat} {B P : List Nat} (h : Upto n B P) (hn : n < P.length) {x : Nat} (hx : Same .f64 x (rf P n)) : Upto (n + 1) (B.set n x) P := by
  obtain ⟨h1, h2⟩ := h
  refine ⟨by simpa using h1, fun j hj => ?_⟩
  unfold rf rdOf at *
  simp only [Int.toNat_natCast] at *
  by_cases e : j = n
  · subst e
    rw [List.getD_eq_getElem?_getD, List.getElem?_set_self (by omega)]
    exact hx
  · rw [List.getD_eq_getElem?_getD, List.getElem?_set_ne (by omega), ← List.getD_eq_getElem?_getD]
    exact h2 j (by omega)
set_option maxHeartbeats 8000000 in
theorem toF_any (A0 : Option Addr) (c0 : Nat) (l : List Nat) (w : World) (hr : kf.C w A0 l.length l) (hc : l.length ≤ c0) (hl : l.length ≤ 1048576) :
    Calls Try.prog 14 #[.slice A0 l.length c0] w fun e w' => ∃ (v : Value) (B : List Nat), e = .returned v ∧ Kd.R kf 23 w' w.heap.size (fun _ => True) v B ∧ Upto l.length B l ∧ Below w.heap.size w w' := by
  have HR := Aside0.mk hr
  have HC := Aside0.mk hc
  have HL := Aside0.mk hl
  clear hr hc hl
  go_enter Try.func14, Try.ntmps14
  go_wp2_with (first | ((with_reducible refine gate_dst (N := 7) rfl ?_); refine Kd.R_make kf _ 23 rfl (N := 7) rfl 22 _ _ rfl (l.length : Int) rfl rfl Try.underlying22 (.float .f64 0) 8 (by kernel_rfl) rfl (by decide) (by omega) 0 (ok := fun _ => True) (okp := fun _ => True) rfl (fun _ hk => hk) trivial (by omega) (by have := HL.out; omega) (Below.refl _ _) (Nat.le_refl _) ?_; intro vm wm hom hbm hg_ hnew_; clear hg_ hnew_; have HO := Aside0.mk hom; have HB := Aside0.mk hbm; clear hom hbm))
  go_loopw [4] (fun s4 wr => ∃ (i : Nat) (B : List Nat), s4 = .int .i64 (i : Int) ∧ Aside0 (i ≤ l.length ∧ Upto i B l) ∧ Aside0 (Kd.R kf 23 wr w.heap.size (fun _ => True) vm B) ∧ Aside0 (Below w.heap.size w wr)) (fun i _ => l.length - (RowKit.intOf i).toNat)
  case atStart => exact ⟨0, _, rfl, ⟨by omega, by simp, fun j hj => by omega⟩, HO, HB⟩
  case round =>
    clear HO HB
    obtain ⟨i, B, rfl, HI, HO, HB⟩ := hrel
    by_cases hi : i < l.length
    · have hd : decide ((i : Int) < (l.length : Int)) = true := decide_eq_true (by omega)
      obtain ⟨ad, eA, hx⟩ := at_fn HR.out i hi
      subst eA
      replace hx := (HB.out.cell (World.block_lt_of_cell? w _ hx)).trans hx
      have hBl := HI.out.2.1
      have hi2 : i < B.length := by omega
      obtain ⟨g, co, eo, gb, gl, cl, hG⟩ := Kd.R_form HO.out (by omega)
      subst eo
      obtain ⟨hy, hf⟩ := R_cellN 0 HO.out i (by omega)
      have HP := Aside0.mk (R_putN HO.out i (rf l (i : Int)))
      have GB := Aside0.mk gb
      have HU := Aside0.mk (HI.out.2.set hi (Same.refl .f64 (rf l (i : Int))))
      clear hG gb gl hBl
      go_wp2
      have e1 := wk hi (by have := HL.out; omega)
      exact ⟨⟨i + 1, _, congrArg (Value.int .i64) e1, ⟨by omega, HU.out⟩, ⟨HP.out.1⟩, ⟨below_set HB.out GB.out⟩⟩, by rw [e1]; simp [RowKit.intOf]; omega⟩
    · have hd : decide ((i : Int) < (l.length : Int)) = false := decide_eq_false (by omega)
      go_wp2
      go_ret
      obtain rfl : i = l.length := by have := HI.out.1; omega
      exact ⟨_, B, rfl, HO.out, HI.out.2, HB.out⟩
/-! ### Comparing -/
set_option maxHeartbeats 8000000 in
theorem eqF_any (A0 : Option Addr) (c0 : Nat) (x : List Nat) (A1 : Option Addr) (c1 : Nat) (y : List Nat) (n : Nat) (w : World) (hr : kf.C w A0 x.length x) (hs : kf.C w A1 y.length y) (hl : x.length = n) (hl' : y.length = n) (hn : n ≤ 1048576) (hu : ∀ j : Nat, j < n → Same .f64 (rf x j) (rf y j)) :
    Calls Try.prog 18 #[.slice A0 n c0, .slice A1 n c1] w fun e w' => e = .returned (.bool true) ∧ Below w.heap.size w w' := by
  rw [hl] at hr
  rw [hl'] at hs
  have HR := Aside0.mk hr
  have HS := Aside0.mk hs
  have HL := Aside0.mk hn
  have HU := Aside0.mk hu
  clear hr hs hl hl' hn hu
  go_enter Try.func18, Try.ntmps18
  go_wp2
  go_loopw [5] (fun s5 wr => ∃ (i : Nat), s5 = .int .i64 (i : Int) ∧ Aside0 (i ≤ n) ∧ Aside0 (Below w.heap.size w wr)) (fun i _ => n - (RowKit.intOf i).toNat)
  case atStart => exact ⟨0, rfl, ⟨by omega⟩, ⟨Below.refl _ _⟩⟩
  case round =>
    obtain ⟨i, rfl, HI, HB⟩ := hrel
    by_cases hi : i < n
    · have hd : decide ((i : Int) < (n : Int)) = true := decide_eq_true (by omega)
      obtain ⟨ad, eA, hx⟩ := at_fn HR.out i hi
      subst eA
      replace hx := (HB.out.cell (World.block_lt_of_cell? w _ hx)).trans hx
      obtain ⟨ad', eA, hy⟩ := at_fn HS.out i hi
      subst eA
      replace hy := (HB.out.cell (World.block_lt_of_cell? w _ hy)).trans hy
      have e1 := wk hi (by have := HL.out; omega)
      have ct := fun w' => sameFloat_any (HU.out i hi) w'
      go_upto_region 6 with fail
      go_quiet ((go_at_call 29; exact (ct _).mono (fun e w' ⟨h1, k, h2⟩ => ⟨h1, _, h2.trans (World.drewN_drewN ..)⟩)))
      go_wp2
      exact ⟨⟨i + 1, congrArg (Value.int .i64) e1, ⟨by omega⟩, ⟨below_drewN HB.out _⟩⟩, by rw [e1]; simp [RowKit.intOf]; omega⟩
    · have hd : decide ((i : Int) < (n : Int)) = false := decide_eq_false (by omega)
      go_wp2
      go_ret
      exact ⟨rfl, HB.out⟩
/-! ### Marks -/
theorem word_num (f : Ieee.Format) (neg : Bool) (r : Nat) (h : r < f.infRung) : (f.read (f.word neg r)).isNaN = false := by
  have hlt : r < f.signWeight := Nat.lt_trans h f.infRung_lt
  have hmod : f.word neg r % f.signWeight = r := by
    unfold Ieee.Format.word
    split
    · rw [Nat.add_mod_left, Nat.mod_eq_of_lt hlt]
    · rw [Nat.mod_eq_of_lt hlt]
  unfold Ieee.Format.read
  simp only [hmod]
  by_cases hb : r < f.binade
  · rw [if_pos hb]; rfl
  · rw [if_neg hb, if_pos h]; rfl
theorem nan_int (n : Int) (h0 : 0 ≤ n) (h1 : n < 16777216) : nanB .f64 (floatOfInt .f64 n) = false := by
  obtain ⟨r, hr, hw⟩ := nearest_f64 (decide (n < 0)) n.natAbs 0 (by omega) (by omega)
  have e : floatOfInt .f64 n = FloatKind.f64.format.word (decide (n < 0)) r := hw
  rw [e]
  exact word_num _ _ _ hr
theorem w64 (x : Int) (h0 : -9223372036854775808 ≤ x) (h1 : x < 9223372036854775808) : wrap64 x = x := by
  unfold wrap64
  omega
set_option maxHeartbeats 8000000 in
theorem markF_any (ok : Nat → Prop) (A : Option Addr) (c : Nat) (x : List Nat) (a : Int) (n : Nat) (w W : World) (hB : Below w.heap.size w W)
    (ho : Kd.R kf 23 W w.heap.size ok (.slice A n c) x) (ha : 0 ≤ a) (hl : a + n ≤ 10000000) :
    Calls Try.prog 33 #[.slice A n c, .int .i64 a] W fun e W' => e = .returned (.int .i64 (a + n)) ∧ (∃ x', Kd.R kf 23 W' w.heap.size ok (.slice A n c) x' ∧ x'.length = n ∧ ∀ j : Nat, j < n → rf x' j = floatOfInt .f64 (a + j)) ∧ Below w.heap.size w W' ∧ Kept W W' ok := by
  have hx : x.length = n := (Kd.R_reads' ho).1.symm
  have HB := Aside0.mk hB
  have HO := Aside0.mk ho
  have HL := Aside0.mk hl
  have HX := Aside0.mk hx
  have HA := Aside0.mk ha
  clear hB ho hl hx ha
  have uf := Try.underlying23
  have ui : (Try.prog.underlying 3).isSome = true := by rw [Try.underlying3]; rfl
  go_enter Try.func33, Try.ntmps33
  go_wp2
  go_loopw [1, 5] (fun s1 s5 wr => ∃ (i : Nat) (B : List Nat), s1 = .int .i64 (a + i) ∧ s5 = .int .i64 (i : Int) ∧ Aside0 (i ≤ n ∧ B.length = n ∧ ∀ j : Nat, j < i → rf B j = floatOfInt .f64 (a + j)) ∧ Aside0 (Kd.R kf 23 wr w.heap.size ok (.slice A n c) B) ∧ Aside0 (Kept W wr ok) ∧ Aside0 (Below w.heap.size w wr)) (fun _ i _ => n - (RowKit.intOf i).toNat)
  case atStart => exact ⟨0, x, by simp, rfl, ⟨by omega, HX.out, fun j hj => by omega⟩, ⟨HO.out⟩, ⟨Kept.refl W ok⟩, HB⟩
  case round =>
    clear HO HB
    obtain ⟨i, B, rfl, rfl, HI, HO, HK, HB⟩ := hrel
    by_cases hi : i < n
    · have hd : decide ((i : Int) < (n : Int)) = true := decide_eq_true (by omega)
      have hBl := HI.out.2.1
      obtain ⟨g, co, eo, gb, gl, cl, hG⟩ := Kd.R_form HO.out (by omega)
      injection eo with eo1 eo2 eo3
      subst eo1 eo3
      obtain ⟨hy, hf⟩ := R_cellN 0 HO.out i hi
      have HP := Aside0.mk (R_putN HO.out i (floatOfInt .f64 (a + i)))
      have GB := Aside0.mk gb
      have GO := Aside0.mk ((Kd.R_own HO.out))
      have hokg : ok g := HO.out.1 g (by simp [Value.ownBlock])
      have GK := Aside0.mk (HK.out.setCell (p := ⟨g, i, none⟩) (.inl hokg) (.float .f64 (floatOfInt .f64 (a + i))))
      have e1 := wk hi (by have := HL.out; have := HA.out; omega)
      have e2 : wrap64 (a + (i : Int) + 1) = a + ((i + 1 : Nat) : Int) := by rw [w64 _ (by have := HL.out; have := HA.out; omega) (by have := HL.out; have := HA.out; omega)]; omega
      clear hG gb gl hBl GO hokg eo2
      go_wp2
      refine ⟨⟨i + 1, _, congrArg (Value.int .i64) e2, congrArg (Value.int .i64) e1, ⟨by omega, by have := HI.out.2.1; simpa using this, fun j hj => ?_⟩, ⟨HP.out.1⟩, GK, ⟨below_set HB.out GB.out⟩⟩, by rw [e1]; simp [RowKit.intOf]; omega⟩
      have h1 := HI.out.2.1
      unfold rf rdOf
      simp only [Int.toNat_natCast]
      by_cases e : j = i
      · subst e
        rw [List.getD_eq_getElem?_getD, List.getElem?_set_self (by omega)]
        rfl
      · rw [List.getD_eq_getElem?_getD, List.getElem?_set_ne (by omega), ← List.getD_eq_getElem?_getD]
        exact HI.out.2.2 j (by omega)
    · have hd : decide ((i : Int) < (n : Int)) = false := decide_eq_false (by omega)
      go_wp2
      go_ret
      obtain rfl : i = n := by have := HI.out.1; omega
      exact ⟨rfl, ⟨B, HO.out, HI.out.2.1, HI.out.2.2⟩, HB.out, HK.out⟩
set_option maxHeartbeats 8000000 in
theorem heldF_any (A : Option Addr) (c : Nat) (x : List Nat) (a : Int) (n : Nat) (w : World) (hr : kf.C w A n x) (hx : ∀ j : Nat, j < n → rf x j = floatOfInt .f64 (a + j)) (ha : 0 ≤ a) (hl : a + n ≤ 10000000) :
    Calls Try.prog 34 #[.slice A n c, .int .i64 a] w fun e w' => e = .returned (.int .i64 (a + n)) ∧ Below w.heap.size w w' := by
  have HR := Aside0.mk hr
  have HX := Aside0.mk hx
  have HL := Aside0.mk hl
  have HA := Aside0.mk ha
  clear hr hx hl ha
  have uf := Try.underlying23
  have ui : (Try.prog.underlying 3).isSome = true := by rw [Try.underlying3]; rfl
  go_enter Try.func34, Try.ntmps34
  go_wp2
  go_loopw [1, 5] (fun s1 s5 wr => ∃ (i : Nat), s1 = .int .i64 (a + i) ∧ s5 = .int .i64 (i : Int) ∧ Aside0 (i ≤ n) ∧ Aside0 (Below w.heap.size w wr)) (fun _ i _ => n - (RowKit.intOf i).toNat)
  case atStart => exact ⟨0, by simp, rfl, ⟨by omega⟩, ⟨Below.refl _ _⟩⟩
  case round =>
    obtain ⟨i, rfl, rfl, HI, HB⟩ := hrel
    by_cases hi : i < n
    · have hd : decide ((i : Int) < (n : Int)) = true := decide_eq_true (by omega)
      obtain ⟨ad, eA, hy⟩ := at_fn HR.out i hi
      subst eA
      rw [HX.out i hi] at hy
      replace hy := (HB.out.cell (World.block_lt_of_cell? w _ hy)).trans hy
      have ho := order_self (nan_int (a + i) (by have := HA.out; omega) (by have := HL.out; omega))
      have e1 := wk hi (by have := HL.out; have := HA.out; omega)
      have e2 : wrap64 (a + (i : Int) + 1) = a + ((i + 1 : Nat) : Int) := by rw [w64 _ (by have := HL.out; have := HA.out; omega) (by have := HL.out; have := HA.out; omega)]; omega
      go_wp2
      exact ⟨⟨i + 1, congrArg (Value.int .i64) e2, congrArg (Value.int .i64) e1, ⟨by omega⟩, HB⟩, by rw [e1]; simp [RowKit.intOf]; omega⟩
    · have hd : decide ((i : Int) < (n : Int)) = false := decide_eq_false (by omega)
      go_wp2
      go_ret
      obtain rfl : i = n := by have := HI.out; omega
      exact ⟨rfl, HB.out⟩
end Go.Proofs.Ytphfmcdkldcmiaa.Fl
/- Arguments that came in, read as plain data of the print's kinds: a struct by its fields, a slice by its elements. -/
namespace Go.Proofs.Ytphfmcdkldcmiaa.Op
open Go.ChangeShapes Go.WideShapes Go.Deep Go.Proofs.YtphfmcdkldcmiaaW.PrintWords

/-- Whatever the data's reader takes of type t is a value of the kind d, and Q holds of it. -/
def Opens {α : Type} (P : Program) (d : Kd α) (t : TypeId) (Q : α → Prop) : Prop :=
  ∀ (H : Type) (enc : TypeId × Value → H) (w : World) (base : Nat) (spare : Nat → Bool) (held : Bool) (fuel : Nat) (cs : List Value) (x : DataW H × List MemPlace),
    DataW.trod enc P w base spare held fuel t cs = some x → ∃ a : α, d.K w a cs ∧ Q a

theorem opens_int {P : Program} {t : TypeId} {k : IntKind} (ht : P.underlying t = some (.int k)) : Opens P (Kd.int k) t (fun n => (Lit.int k n).wf = true) := by
  intro H enc w base spare held fuel cs x h
  cases fuel with
  | zero => simp [DataW.trod] at h
  | succ n =>
    simp only [DataW.trod, ht] at h
    split at h <;> simp_all
    exact ⟨_, rfl, h.1.2⟩

theorem opens_bool {P : Program} {t : TypeId} (ht : P.underlying t = some .bool) : Opens P Kd.bool t (fun _ => True) := by
  intro H enc w base spare held fuel cs x h
  cases fuel with
  | zero => simp [DataW.trod] at h
  | succ n =>
    simp only [DataW.trod, ht] at h
    split at h <;> first | (simp_all; done) | exact ⟨_, rfl, trivial⟩

theorem fmt_one (k : FloatKind) (x : Nat) : (Value.float k x).oneCell' = true := rfl
/-- Floats, by their bits. -/
def kfloat (k : FloatKind) : Kd Nat := Kd.scalar (Value.float k) (fmt_one k)
theorem opens_float {P : Program} {t : TypeId} {k : FloatKind} (ht : P.underlying t = some (.float k)) : Opens P (kfloat k) t (fun n => (Lit.float k n).wf = true) := by
  intro H enc w base spare held fuel cs x h
  cases fuel with
  | zero => simp [DataW.trod] at h
  | succ n =>
    simp only [DataW.trod, ht] at h
    split at h <;> simp_all
    exact ⟨_, rfl, h.1.2⟩

theorem opens_slice {P : Program} {α : Type} {d : Kd α} {t e : TypeId} {Q : α → Prop} (ht : P.underlying t = some (.slice e)) (hc : P.cellsOf e = d.sz) (hd : Opens P d e Q) :
    Opens P (Kd.slice e d) t (fun xs => xs.length ≤ maxLen ∧ ∀ x ∈ xs, Q x) := by
  intro H enc w base spare held fuel cs x h
  rcases open_slice ht h with ⟨rfl, _⟩ | ⟨a, len, cap, m, n, D, Pl, rfl, hb, hl, hm, hmm, rfl, hx⟩
  · exact ⟨[], ⟨none, 0, rfl, Nat.le_refl _, Kd.C_nil _ _⟩, Nat.zero_le _, fun x hx => by cases hx⟩
  · have hle : len ≤ m := by rw [hmm]; split <;> omega
    have key : ∀ i, i < len → ∃ z : α, Q z ∧ ∃ c, c.length = d.sz ∧ d.K w z c ∧ ∀ j u, c[j]? = some u → w.cell? (a.add (i * d.sz + j)) = some u := by
      intro i hi
      obtain ⟨cs', h1, h2⟩ := hx i (by omega)
      obtain ⟨z, hz, hq⟩ := hd H enc w base spare held n cs' _ h2
      refine ⟨z, hq, cs', d.K_len hz, hz, fun j u hj => ?_⟩
      rw [hc] at h1
      have hlt : j < d.sz := by
        have := (List.getElem?_eq_some_iff.1 hj).1
        have := (World.cells?_some h1).2.1
        omega
      have := (World.cells?_some h1).2.2 j hlt
      rw [Deep.add_add, hj] at this
      exact this
    have hex : ∃ xs : List α, xs.length = len ∧ ∀ i z, xs[i]? = some z → Q z ∧ ∃ c, c.length = d.sz ∧ d.K w z c ∧ ∀ j u, c[j]? = some u → w.cell? (a.add (i * d.sz + j)) = some u := by
      clear hx h hmm
      revert key
      generalize len = L
      intro key
      induction L with
      | zero => exact ⟨[], rfl, fun i z hz => by simp at hz⟩
      | succ L ih =>
        obtain ⟨xs, hlen, hxs⟩ := ih (fun i hi => key i (by omega))
        obtain ⟨z, hz⟩ := key L (by omega)
        refine ⟨xs ++ [z], by simp [hlen], fun i y hy => ?_⟩
        by_cases hi : i < xs.length
        · rw [List.getElem?_append_left hi] at hy
          exact hxs i y hy
        · have hlt : i < (xs ++ [z]).length := (List.getElem?_eq_some_iff.1 hy).1
          simp at hlt
          obtain rfl : i = L := by omega
          rw [List.getElem?_append_right (by omega), hlen, Nat.sub_self] at hy
          cases hy
          exact hz
    obtain ⟨xs, hlen, hxs⟩ := hex
    refine ⟨xs, ⟨some a, cap, by rw [hlen], by omega, ⟨rfl, ?_, fun _ => ⟨a, rfl, fun j p hj => (hxs j p hj).2⟩⟩⟩, by omega, fun z hz => ?_⟩
    · have : maxLen = 9223372036854775807 := rfl
      omega
    · obtain ⟨i, hi⟩ := List.getElem?_of_mem hz
      exact (hxs i z hi).1

/-- The fields from offset 'off' on, as a kind. -/
def Fields {α : Type} (P : Program) (d : Kd α) (fs : List Field) (off : Nat) (Q : α → Prop) : Prop :=
  ∀ (H : Type) (enc : TypeId × Value → H) (w : World) (base : Nat) (spare : Nat → Bool) (held : Bool) (fuel : Nat) (cs : List Value) (xs : List (DataW H × List MemPlace)),
    fs.mapM (fun f => DataW.trod enc P w base spare held fuel f.type ((cs.drop f.offset).take (P.cellsOf f.type))) = some xs → off + d.sz ≤ cs.length → ∃ a : α, d.K w a ((cs.drop off).take d.sz) ∧ Q a

theorem fields_one {P : Program} {α : Type} {d : Kd α} {f : Field} {off : Nat} {Q : α → Prop} (ho : f.offset = off) (hc : P.cellsOf f.type = d.sz) (hd : Opens P d f.type Q) : Fields P d [f] off Q := by
  intro H enc w base spare held fuel cs xs h hl
  simp only [List.mapM_cons, List.mapM_nil, Option.bind_eq_bind, Option.pure_def] at h
  obtain ⟨y, hy, _⟩ := Option.bind_eq_some_iff.1 h
  rw [hc, ho] at hy
  exact hd H enc w base spare held fuel _ _ hy

theorem fields_cons {P : Program} {α β : Type} {d : Kd α} {d' : Kd β} {f : Field} {fs : List Field} {off : Nat} {Q : α → Prop} {Q' : β → Prop} (ho : f.offset = off) (hc : P.cellsOf f.type = d.sz)
    (hd : Opens P d f.type Q) (hr : Fields P d' fs (off + d.sz) Q') : Fields P (Kd.pair d d') (f :: fs) off (fun x => Q x.1 ∧ Q' x.2) := by
  intro H enc w base spare held fuel cs xs h hl
  have hsz : (Kd.pair d d').sz = d.sz + d'.sz := rfl
  rw [hsz] at hl
  simp only [List.mapM_cons, Option.bind_eq_bind, Option.pure_def] at h
  obtain ⟨y, hy, h⟩ := Option.bind_eq_some_iff.1 h
  obtain ⟨ys, hys, _⟩ := Option.bind_eq_some_iff.1 h
  rw [hc, ho] at hy
  obtain ⟨a, ha, hqa⟩ := hd H enc w base spare held fuel _ _ hy
  obtain ⟨b, hb, hqb⟩ := hr H enc w base spare held fuel cs ys hys (by omega)
  refine ⟨(a, b), ⟨(cs.drop off).take d.sz, (cs.drop (off + d.sz)).take d'.sz, ?_, ha, hb⟩, hqa, hqb⟩
  rw [hsz, List.take_add, List.drop_drop]

theorem opens_struct {P : Program} {α β : Type} {d : Kd α} {t : TypeId} {fs : Array Field} {Q : α → Prop} (f : β → α) (g : α → β) (hfg : ∀ a, f (g a) = a) (ht : P.underlying t = some (.struct fs)) (hc : P.cellsOf t = d.sz)
    (hr : Fields P d fs.toList 0 Q) : Opens P (Kd.iso d f) t (fun b => Q (f b)) := by
  intro H enc w base spare held fuel cs x h
  cases fuel with
  | zero => simp [DataW.trod] at h
  | succ n =>
    have hh : (if cs.length = P.cellsOf t then (fs.toList.mapM fun f => DataW.trod enc P w base spare held n f.type ((cs.drop f.offset).take (P.cellsOf f.type))).map fun xs => (DataW.agg (xs.map (·.1)), xs.flatMap (·.2)) else none) = some x := by
      rw [← h]
      simp only [DataW.trod, ht]
    split at hh
    · rename_i hlen
      obtain ⟨xs, hxs, _⟩ := Option.map_eq_some_iff.1 hh
      obtain ⟨a, ha, hq⟩ := hr H enc w base spare held n cs xs hxs (by omega)
      refine ⟨g a, ?_, by show Q (f (g a)); rw [hfg]; exact hq⟩
      show d.K w (f (g a)) cs
      rw [hfg]
      rw [List.drop_zero, List.take_of_length_le (by omega)] at ha
      exact ha
    · cases hh

/-! ### Of a whole argument -/
theorem arg_int {P : Program} {t : TypeId} {k : IntKind} {H : Type} {enc : TypeId × Value → H} {w : World} {r : Reach} {b0 base : Nat} {spare : Nat → Bool} {held : Bool} {v : Value} {x : DataW H} {ps : List MemPlace}
    (ht : P.underlying t = some (.int k)) (hv : Value.okWide P w r b0 t v) (h : DataW.Trod enc P w base spare held t v x ps) : ∃ n : Int, v = .int k n ∧ (Lit.int k n).wf = true := by
  obtain ⟨n, rfl, _, _, wn⟩ := open_int ht hv h
  exact ⟨n, rfl, wn⟩
theorem arg_bool {P : Program} {t : TypeId} {H : Type} {enc : TypeId × Value → H} {w : World} {r : Reach} {b0 base : Nat} {spare : Nat → Bool} {held : Bool} {v : Value} {x : DataW H} {ps : List MemPlace}
    (ht : P.underlying t = some .bool) (hv : Value.okWide P w r b0 t v) (h : DataW.Trod enc P w base spare held t v x ps) : ∃ b : Bool, v = .bool b := by
  obtain ⟨b, rfl, _, _⟩ := RowKit.open_bool ht hv h
  exact ⟨b, rfl⟩
theorem arg_float {P : Program} {t : TypeId} {k : FloatKind} {H : Type} {enc : TypeId × Value → H} {w : World} {r : Reach} {b0 base : Nat} {spare : Nat → Bool} {held : Bool} {v : Value} {x : DataW H} {ps : List MemPlace}
    (ht : P.underlying t = some (.float k)) (hv : Value.okWide P w r b0 t v) (h : DataW.Trod enc P w base spare held t v x ps) : ∃ n : Nat, v = .float k n ∧ (Lit.float k n).wf = true := by
  obtain ⟨n, rfl, _, _, wn⟩ := open_float ht hv h
  exact ⟨n, rfl, wn⟩
theorem arr_eq {cs : Array Value} {l : List Value} (h : cs.toList = l) : cs = l.toArray := by rw [← h]
/-- A struct by value. -/
theorem arg_struct {P : Program} {α : Type} {d : Kd α} {t : TypeId} {fs : Array Field} {Q : α → Prop} {H : Type} {enc : TypeId × Value → H} {w : World} {r : Reach} {b0 base : Nat} {spare : Nat → Bool} {held : Bool} {v : Value} {x : DataW H} {ps : List MemPlace}
    (ht : P.underlying t = some (.struct fs)) (hd : Opens P d t Q) (hv : Value.okWide P w r b0 t v) (h : DataW.Trod enc P w base spare held t v x ps) : ∃ (a : α) (cs : Array Value), v = .agg cs ∧ d.K w a cs.toList ∧ Q a := by
  obtain ⟨cs, rfl, _⟩ := okWide_struct ht hv
  obtain ⟨fuel, hf⟩ := h
  obtain ⟨a, ha, hq⟩ := hd H enc w base spare held fuel _ _ hf
  exact ⟨a, cs, rfl, ha, hq⟩

/-- A slice. -/
theorem arg_slice {P : Program} {α : Type} {d : Kd α} {t e : TypeId} {Q : α → Prop} {H : Type} {enc : TypeId × Value → H} {w : World} {r : Reach} {b0 base : Nat} {spare : Nat → Bool} {held : Bool} {v : Value} {x : DataW H} {ps : List MemPlace}
    (ht : P.underlying t = some (.slice e)) (hc : P.cellsOf e = d.sz) (hd : Opens P d e Q) (hv : Value.okWide P w r b0 t v) (h : DataW.Trod enc P w base spare held t v x ps) :
    ∃ (xs : List α) (A : Option Addr) (c : Nat), v = .slice A xs.length c ∧ xs.length ≤ c ∧ d.C w A xs.length xs ∧ xs.length ≤ maxLen ∧ ∀ z ∈ xs, Q z := by
  obtain ⟨a0, len, cap, rfl⟩ := okWide_slice ht hv
  obtain ⟨fuel, hf⟩ := h
  obtain ⟨xs, ⟨A, c, hA, hl, hC⟩, hm, hq⟩ := opens_slice ht hc hd H enc w base spare held fuel _ _ hf
  simp only [Value.cells, List.cons.injEq, Value.slice.injEq, and_true] at hA
  obtain ⟨rfl, rfl, rfl⟩ := hA
  exact ⟨xs, _, _, rfl, hl, hC, hm, hq⟩
theorem rows_le {α : Type} {e : Nat} {d : Kd α} {w : World} {A : Option Addr} {n : Nat} {xs : List (List α)} (h : Kd.C (Kd.slice e d) w A n xs) : ∀ x ∈ xs, x.length ≤ 9223372036854775807 := by
  intro x hx
  obtain ⟨j, hj, rfl⟩ := List.getElem_of_mem hx
  have hn := h.1
  obtain ⟨ad, _, hc⟩ := h.2.2 (by omega)
  obtain ⟨c, _, hk, _⟩ := hc j _ (List.getElem?_eq_getElem hj)
  obtain ⟨A', c', _, _, hC⟩ := hk
  exact hC.2.1
end Go.Proofs.Ytphfmcdkldcmiaa.Op
/- Rows of pairs of floats: read, written. -/
namespace Go.Proofs.Ytphfmcdkldcmiaa.Fl
open Go Go.RowKit Go.Proofs.YtphfmcdkldcmiaaW.PrintWords Go.Proofs.YtphfmcdkldcmiaaW.PrintLast Go.Proofs.YtphfmcdkldcmiaaW.PrintMore
open Go.Proofs.Ytphfmcdkldcmiaa.Rg Go.Proofs.Ytphfmcdkldcmiaa.Rs
open Go.Proofs.Ytphfmcdkldcmiaa.Rt (Mv Near region_spw)
set_option linter.unusedVariables false
set_option linter.unusedSimpArgs false
abbrev k1 (k : FloatKind) : Kd Nat := Kd.scalar (Value.float k) (fun _ => rfl)
/-- A pair of floats. -/
abbrev kw (k : FloatKind) : Kd (Nat × Nat) := Kd.pair (k1 k) (k1 k)
def el (xs : List (Nat × Nat)) (i : Nat) : Nat × Nat := xs.getD i (0, 0)
/-- Pairs alike. -/
def SameW (k : FloatKind) (x y : Nat × Nat) : Prop := Same k x.1 y.1 ∧ Same k x.2 y.2
theorem SameW.refl (k : FloatKind) (x : Nat × Nat) : SameW k x x := ⟨Same.refl _ _, Same.refl _ _⟩
theorem SameW.symm {k : FloatKind} {x y : Nat × Nat} (h : SameW k x y) : SameW k y x := ⟨h.1.symm, h.2.symm⟩
theorem SameW.trans {k : FloatKind} {x y z : Nat × Nat} (h : SameW k x y) (h' : SameW k y z) : SameW k x z := ⟨h.1.trans h'.1, h.2.trans h'.2⟩
section
variable {k : FloatKind}
theorem kw_read {w : World} {A : Option Addr} {n : Nat} {xs : List (Nat × Nat)} (h : (kw k).C w A n xs) (i : Nat) (hi : i < n) :
    ∃ ad, A = some ad ∧ w.cell? (ad.add (i * 2)) = some (.float k (el xs i).1) ∧ w.cell? ⟨(ad.add (i * 2)).block, (ad.add (i * 2)).off + 1, none⟩ = some (.float k (el xs i).2) := by
  obtain ⟨ad, c, hA, hc, hK, hr⟩ := Kd.C_get h (0, 0) (i : Int) (by omega) (by omega)
  obtain ⟨c0, c1, rfl, h0, h1⟩ := hK
  have h0' : c0 = [.float k (xs.getD (i : Int).toNat (0, 0)).1] := h0
  have h1' : c1 = [.float k (xs.getD (i : Int).toNat (0, 0)).2] := h1
  subst h0' h1'
  simp only [Int.toNat_natCast] at hr
  exact ⟨ad, hA, hr 0 _ rfl, by have q := hr 1 _ rfl; rw [← add_add] at q; exact q⟩
variable {e base g n cap : Nat} {ok : Nat → Prop} {W : World} {xs : List (Nat × Nat)}
theorem kw_cells (h : (kw k).R e W base ok (.slice (some ⟨g, 0, none⟩) n cap) xs) (i : Nat) (hi : i < n) :
    W.cell? ⟨g, i * 2, none⟩ = some (.float k (el xs i).1) ∧ W.cell? ⟨g, i * 2 + 1, none⟩ = some (.float k (el xs i).2) ∧ W.frozen? ⟨g, i * 2, none⟩ = false ∧ W.frozen? ⟨g, i * 2 + 1, none⟩ = false := by
  obtain ⟨c, hc, hM, hr, hf⟩ := Kd.R_elem h (0, 0) (i : Int) (by omega) (by omega)
  obtain ⟨c0, c1, rfl, h0, h1⟩ := hM
  have h0' : c0 = [.float k (xs.getD (i : Int).toNat (0, 0)).1] := h0
  have h1' : c1 = [.float k (xs.getD (i : Int).toNat (0, 0)).2] := h1
  subst h0' h1'
  simp only [Int.toNat_natCast] at hr hf
  exact ⟨hr 0 _ rfl, hr 1 _ rfl, hf 0, hf 1⟩
theorem kw_putg (h : (kw k).R e W base ok (.slice (some ⟨g, 0, none⟩) n cap) xs) (i : Nat) (hi : i < n) (a b : Nat) (hg : ok g) :
    (kw k).R e ((W.setCell ⟨g, i * 2, none⟩ (.float k a)).setCell ⟨g, i * 2 + 1, none⟩ (.float k b)) base ok (.slice (some ⟨g, 0, none⟩) n cap) (xs.set i (a, b)) ∧ W.grownBy ((W.setCell ⟨g, i * 2, none⟩ (.float k a)).setCell ⟨g, i * 2 + 1, none⟩ (.float k b)) (some g) := by
  obtain ⟨c, hc, hM, hr, hf⟩ := Kd.R_elem h (0, 0) (i : Int) (by omega) (by omega)
  have hc2 : c.length = 2 := hc
  have q := (Kd.R_seg h (i : Int) (by omega) (by omega) (c := c) (seg := [.float k a, .float k b]) (j := 0) (x' := (a, b)) (okp := fun _ => False) hc hr (by show 0 + 2 ≤ 2; omega) ⟨[.float k a], [.float k b], by
    rw [List.take_zero, List.drop_eq_nil_of_le (by simp [hc2])]; rfl, rfl, rfl⟩ (fun _ h => h.elim))
  simp only [Int.toNat_natCast] at q
  exact q
theorem kw_put (h : (kw k).R e W base ok (.slice (some ⟨g, 0, none⟩) n cap) xs) (i : Nat) (hi : i < n) (a b : Nat) (hg : ok g) :
    (kw k).R e ((W.setCell ⟨g, i * 2, none⟩ (.float k a)).setCell ⟨g, i * 2 + 1, none⟩ (.float k b)) base ok (.slice (some ⟨g, 0, none⟩) n cap) (xs.set i (a, b)) := (kw_putg h i hi a b hg).1
end
theorem set_el {R : Nat → Nat × Nat → Prop} {B : List (Nat × Nat)} {i n : Nat} {x : Nat × Nat} (hl : B.length = n) (hi : i < n) (h : ∀ j : Nat, j < i → R j (el B j)) (hx : R i x) : (B.set i x).length = n ∧ ∀ j : Nat, j < i + 1 → R j (el (B.set i x) j) := by
  refine ⟨by simpa using hl, fun j hj => ?_⟩
  unfold el at *
  by_cases e : j = i
  · subst e
    rw [List.getD_eq_getElem?_getD, List.getElem?_set_self (by omega)]
    exact hx
  · rw [List.getD_eq_getElem?_getD, List.getElem?_set_ne (by omega), ← List.getD_eq_getElem?_getD]
    exact h j (by omega)
set_option maxHeartbeats 8000000 in
theorem toWaveS_any (A0 : Option Addr) (c0 n : Nat) (l : List (Nat × Nat)) (w : World) (hr : (kw .f64).C w A0 n l) (hc : n ≤ c0) (hl : n ≤ 1048576) :
    Calls Try.prog 27 #[.slice A0 n c0] w fun e w' => ∃ (v : Value) (B : List (Nat × Nat)), e = .returned v ∧ (kw .f64).R 26 w' w.heap.size (fun _ => True) v B ∧ B.length = n ∧ (∀ j : Nat, j < n → SameW .f64 (el B j) (el l j)) ∧ Below w.heap.size w w' := by
  have HR := Aside0.mk hr
  have HC := Aside0.mk hc
  have HL := Aside0.mk hl
  clear hr hc hl
  go_enter Try.func27, Try.ntmps27
  go_wp2_with (first | ((with_reducible refine gate_dst (N := 7) rfl ?_); refine Kd.R_make (kw .f64) _ 26 rfl (N := 7) rfl 50 _ _ rfl (n : Int) rfl rfl Try.underlying50 (.agg #[.float .f64 0, .float .f64 0]) 16 (by kernel_rfl) rfl (by decide) (by omega) (0, 0) (ok := fun _ => True) (okp := fun _ => True) ⟨[.float .f64 0], [.float .f64 0], rfl, rfl, rfl⟩ (fun _ hk => hk) trivial (by omega) (by have := HL.out; omega) (Below.refl _ _) (Nat.le_refl _) ?_; intro vm wm hom hbm hg_ hnew_; clear hg_ hnew_; have HO := Aside0.mk hom; have HB := Aside0.mk hbm; clear hom hbm))
  go_loopw [4] (fun s4 wr => ∃ (i : Nat) (B : List (Nat × Nat)), s4 = .int .i64 (i : Int) ∧ Aside0 (i ≤ n ∧ B.length = n ∧ ∀ j : Nat, j < i → SameW .f64 (el B j) (el l j)) ∧ Aside0 ((kw .f64).R 26 wr w.heap.size (fun _ => True) vm B) ∧ Aside0 (Below w.heap.size w wr)) (fun i _ => n - (RowKit.intOf i).toNat)
  case atStart => exact ⟨0, _, rfl, ⟨by omega, by simp, fun j hj => by omega⟩, HO, HB⟩
  case round =>
    clear HO HB
    obtain ⟨i, B, rfl, HI, HO, HB⟩ := hrel
    by_cases hi : i < n
    · have hd : decide ((i : Int) < (n : Int)) = true := decide_eq_true (by omega)
      obtain ⟨ad, eA, hx, hx2⟩ := kw_read HR.out i hi
      subst eA
      replace hx := (HB.out.cell (World.block_lt_of_cell? w _ hx)).trans hx
      replace hx2 := (HB.out.cell (World.block_lt_of_cell? w _ hx2)).trans hx2
      have hBl := HI.out.2.1
      obtain ⟨g, co, eo, gb, gl, cl, hG⟩ := Kd.R_form HO.out (by omega)
      rw [hBl] at eo
      subst eo
      have GB := Aside0.mk gb
      clear hG gb gl hBl
      go_wp2_with fail
      refine (toWave_any _ _ _).mono ?_
      rintro e w2 ⟨rfl, hb⟩
      replace HO := Aside0.mk (Kd.R_below HO.out hb)
      replace HB := Aside0.mk (HB.out.trans (hb.mono HB.out.size))
      clear hx hx2 hb
      obtain ⟨hy, hy2, hf, hf2⟩ := kw_cells HO.out i hi
      have HP := Aside0.mk (kw_put HO.out i hi (el l i).1 (el l i).2 trivial)
      have HS := Aside0.mk (set_el (R := fun j x => SameW .f64 x (el l j)) HI.out.2.1 hi HI.out.2.2 (SameW.refl .f64 (el l i)))
      have e1 := wk hi (by have := HL.out; omega)
      go_wp2
      exact ⟨⟨i + 1, _, congrArg (Value.int .i64) e1, ⟨by omega, HS.out⟩, ⟨HP.out⟩, ⟨below_set (below_set HB.out GB.out) GB.out⟩⟩, by rw [e1]; simp [RowKit.intOf]; omega⟩
    · have hd : decide ((i : Int) < (n : Int)) = false := decide_eq_false (by omega)
      go_wp2
      go_ret
      obtain rfl : i = n := by have := HI.out.1; omega
      exact ⟨_, B, rfl, HO.out, HI.out.2.1, HI.out.2.2, HB.out⟩
set_option maxHeartbeats 8000000 in
theorem eqWaveS_any (A0 : Option Addr) (c0 : Nat) (x : List (Nat × Nat)) (A1 : Option Addr) (c1 : Nat) (y : List (Nat × Nat)) (n : Nat) (w : World) (hr : (kw .f64).C w A0 n x) (hs : (kw .f64).C w A1 n y) (hn : n ≤ 1048576) (hu : ∀ j : Nat, j < n → SameW .f64 (el x j) (el y j)) :
    Calls Try.prog 30 #[.slice A0 n c0, .slice A1 n c1] w fun e w' => e = .returned (.bool true) ∧ Below w.heap.size w w' := by
  have HR := Aside0.mk hr
  have HS := Aside0.mk hs
  have HL := Aside0.mk hn
  have HU := Aside0.mk hu
  clear hr hs hn hu
  go_enter Try.func30, Try.ntmps30
  go_wp2
  go_loopw [5] (fun s5 wr => ∃ (i : Nat), s5 = .int .i64 (i : Int) ∧ Aside0 (i ≤ n) ∧ Aside0 (Below w.heap.size w wr)) (fun i _ => n - (RowKit.intOf i).toNat)
  case atStart => exact ⟨0, rfl, ⟨by omega⟩, ⟨Below.refl _ _⟩⟩
  case round =>
    obtain ⟨i, rfl, HI, HB⟩ := hrel
    by_cases hi : i < n
    · have hd : decide ((i : Int) < (n : Int)) = true := decide_eq_true (by omega)
      obtain ⟨ad, eA, hx, hx2⟩ := kw_read HR.out i hi
      subst eA
      replace hx := (HB.out.cell (World.block_lt_of_cell? w _ hx)).trans hx
      replace hx2 := (HB.out.cell (World.block_lt_of_cell? w _ hx2)).trans hx2
      obtain ⟨ad', eA, hy, hy2⟩ := kw_read HS.out i hi
      subst eA
      replace hy := (HB.out.cell (World.block_lt_of_cell? w _ hy)).trans hy
      replace hy2 := (HB.out.cell (World.block_lt_of_cell? w _ hy2)).trans hy2
      have hu := Aside0.mk (HU.out i hi)
      have e1 := wk hi (by have := HL.out; omega)
      go_upto_region 6 with fail
      refine region_spw (M := (fun _ => False)) (by kernel_rfl) [some 17, some 18, some 19, some 20, some 21, some 22, some 23, some 24, some 25, some 26] [u17, u18, u19, u20, u21, u22, u23, u24, u25, u26] [] [Rt.Sp.val (fun v u_ => v = .slice (some ad) n c0), Rt.Sp.val (fun v u_ => v = .int .i64 (i : Int)), Rt.Sp.val (fun v u_ => v = .pointer (some (ad.add (i * 2)))), Rt.Sp.val (fun v u_ => v = .agg #[.float .f64 (el x i).1, .float .f64 (el x i).2]), Rt.Sp.val (fun v u_ => v = .slice (some ad') n c1), Rt.Sp.val (fun v u_ => v = .int .i64 (i : Int)), Rt.Sp.val (fun v u_ => v = .pointer (some (ad'.add (i * 2)))), Rt.Sp.val (fun v u_ => v = .agg #[.float .f64 (el y i).1, .float .f64 (el y i).2]), Rt.Sp.val (fun v u_ => v = .bool true), Rt.Sp.val (fun v u_ => v = .bool false)] (by kernel_rfl) rfl (by kernel_rfl) (fun _ h => h.elim) ⟨(fun _ _ _ h _ => h), (fun _ _ _ h _ => h), (fun _ _ _ h _ => h), (fun _ _ _ h _ => h), (fun _ _ _ h _ => h), (fun _ _ _ h _ => h), (fun _ _ _ h _ => h), (fun _ _ _ h _ => h), (fun _ _ _ h _ => h), (fun _ _ _ h _ => h), trivial⟩ ⟨?_, ?_, ?_, ?_, ?_, ?_, ?_, ?_, ?_, ?_, trivial⟩ ?_
      · intro vs hl u1 hb hd
        obtain ⟨v0, v1, v2, v3, v4, v5, v6, v7, v8, v9, rfl⟩ := len10 hl
        clear hl
        intro K hK
        simp only [fs, fo, fz, Act.put, s1, s2, s3] at hK ⊢
        refine ⟨?_⟩
        go_simp
        exact hK _ _ (Mv.refl _ _) rfl
      · intro vs hl u1 hb hd
        obtain ⟨v0, v1, v2, v3, v4, v5, v6, v7, v8, v9, rfl⟩ := len10 hl
        clear hl
        intro K hK
        simp only [fs, fo, fz, Act.put, s1, s2, s3] at hK ⊢
        refine ⟨?_⟩
        go_simp
        exact hK _ _ (Mv.refl _ _) rfl
      · intro vs hl u1 hb hd
        obtain ⟨v0, v1, v2, v3, v4, v5, v6, v7, v8, v9, rfl⟩ := len10 hl
        clear hl
        obtain ⟨kh0, kh1, _⟩ := hd
        obtain rfl : v0 = .slice (some ad) n c0 := kh0
        obtain rfl : v1 = .int .i64 (i : Int) := kh1
        intro K hK
        simp only [fs, fo, fz, Act.put, s1, s2, s3] at hK ⊢
        refine ⟨?_⟩
        go_simp
        exact hK _ _ (Mv.refl _ _) rfl
      · intro vs hl u1 hb hd
        obtain ⟨v0, v1, v2, v3, v4, v5, v6, v7, v8, v9, rfl⟩ := len10 hl
        clear hl
        obtain ⟨kh2, _⟩ := hd
        obtain rfl : v2 = .pointer (some (ad.add (i * 2))) := kh2
        intro K hK
        have l0 := hb.cellv (show wr.drew.cell? _ = _ from hx) (fun h => h)
        have l1 := hb.cellv (show wr.drew.cell? _ = _ from hx2) (fun h => h)
        simp only [fs, fo, fz, Act.put, s1, s2, s3] at hK ⊢
        refine ⟨?_⟩
        go_simp
        exact hK _ _ (Mv.refl _ _) rfl
      · intro vs hl u1 hb hd
        obtain ⟨v0, v1, v2, v3, v4, v5, v6, v7, v8, v9, rfl⟩ := len10 hl
        clear hl
        intro K hK
        simp only [fs, fo, fz, Act.put, s1, s2, s3] at hK ⊢
        refine ⟨?_⟩
        go_simp
        exact hK _ _ (Mv.refl _ _) rfl
      · intro vs hl u1 hb hd
        obtain ⟨v0, v1, v2, v3, v4, v5, v6, v7, v8, v9, rfl⟩ := len10 hl
        clear hl
        intro K hK
        simp only [fs, fo, fz, Act.put, s1, s2, s3] at hK ⊢
        refine ⟨?_⟩
        go_simp
        exact hK _ _ (Mv.refl _ _) rfl
      · intro vs hl u1 hb hd
        obtain ⟨v0, v1, v2, v3, v4, v5, v6, v7, v8, v9, rfl⟩ := len10 hl
        clear hl
        obtain ⟨kh4, kh5, _⟩ := hd
        obtain rfl : v4 = .slice (some ad') n c1 := kh4
        obtain rfl : v5 = .int .i64 (i : Int) := kh5
        intro K hK
        simp only [fs, fo, fz, Act.put, s1, s2, s3] at hK ⊢
        refine ⟨?_⟩
        go_simp
        exact hK _ _ (Mv.refl _ _) rfl
      · intro vs hl u1 hb hd
        obtain ⟨v0, v1, v2, v3, v4, v5, v6, v7, v8, v9, rfl⟩ := len10 hl
        clear hl
        obtain ⟨kh6, _⟩ := hd
        obtain rfl : v6 = .pointer (some (ad'.add (i * 2))) := kh6
        intro K hK
        have l0 := hb.cellv (show wr.drew.cell? _ = _ from hy) (fun h => h)
        have l1 := hb.cellv (show wr.drew.cell? _ = _ from hy2) (fun h => h)
        simp only [fs, fo, fz, Act.put, s1, s2, s3] at hK ⊢
        refine ⟨?_⟩
        go_simp
        exact hK _ _ (Mv.refl _ _) rfl
      · intro vs hl u1 hb hd
        obtain ⟨v0, v1, v2, v3, v4, v5, v6, v7, v8, v9, rfl⟩ := len10 hl
        clear hl
        obtain ⟨kh3, kh7, _⟩ := hd
        obtain rfl : v3 = .agg #[.float .f64 (el x i).1, .float .f64 (el x i).2] := kh3
        obtain rfl : v7 = .agg #[.float .f64 (el y i).1, .float .f64 (el y i).2] := kh7
        intro K hK
        simp only [fs, fo, fz, Act.put, s1, s2, s3] at hK ⊢
        refine ⟨?_⟩
        go_simp
        refine (eqWave_any hu.out.1 hu.out.2 _).mono ?_
        rintro e w2 ⟨rfl, hb2⟩
        exact hK _ _ (Mv.of hb2) rfl
      · intro vs hl u1 hb hd
        obtain ⟨v0, v1, v2, v3, v4, v5, v6, v7, v8, v9, rfl⟩ := len10 hl
        clear hl
        obtain ⟨kh8, _⟩ := hd
        obtain rfl : v8 = .bool true := kh8
        intro K hK
        simp only [fs, fo, fz, Act.put, s1, s2, s3] at hK ⊢
        refine ⟨?_⟩
        go_simp
        exact hK _ _ (Mv.refl _ _) rfl
      · intro vs hl w2 hb hd ha
        obtain ⟨v0, v1, v2, v3, v4, v5, v6, v7, v8, v9, rfl⟩ := len10 hl
        clear hl
        obtain ⟨kh0, kh1, kh2, kh3, kh4, kh5, kh6, kh7, kh8, kh9, _⟩ := hd
        obtain rfl : v0 = .slice (some ad) n c0 := kh0
        obtain rfl : v1 = .int .i64 (i : Int) := kh1
        obtain rfl : v2 = .pointer (some (ad.add (i * 2))) := kh2
        obtain rfl : v3 = .agg #[.float .f64 (el x i).1, .float .f64 (el x i).2] := kh3
        obtain rfl : v4 = .slice (some ad') n c1 := kh4
        obtain rfl : v5 = .int .i64 (i : Int) := kh5
        obtain rfl : v6 = .pointer (some (ad'.add (i * 2))) := kh6
        obtain rfl : v7 = .agg #[.float .f64 (el y i).1, .float .f64 (el y i).2] := kh7
        obtain rfl : v8 = .bool true := kh8
        obtain rfl : v9 = .bool false := kh9
        clear ha
        simp only [fs, fo, fz, Act.put, s1, s2, s3]
        replace HB := Aside0.mk (HB.out.trans (Below.trans (show Below w.heap.size wr wr.drew from pw_below_drewN (Below.refl _ _) 1) (hb.belowB HB.out.size (fun _ h => h.elim))))
        clear hb
        clear hx hx2 hy hy2
        go_wp2
        exact ⟨⟨i + 1, congrArg (Value.int .i64) e1, ⟨by omega⟩, HB⟩, by rw [e1]; simp [RowKit.intOf]; omega⟩
    · have hd : decide ((i : Int) < (n : Int)) = false := decide_eq_false (by omega)
      go_wp2
      go_ret
      exact ⟨rfl, HB.out⟩
set_option maxHeartbeats 8000000 in
theorem toSmallS_any (A0 : Option Addr) (c0 n : Nat) (l : List (Nat × Nat)) (w : World) (hr : (kw .f32).C w A0 n l) (hc : n ≤ c0) (hl : n ≤ 1048576) :
    Calls Try.prog 21 #[.slice A0 n c0] w fun e w' => ∃ (v : Value) (B : List (Nat × Nat)), e = .returned v ∧ (kw .f32).R 38 w' w.heap.size (fun _ => True) v B ∧ B.length = n ∧ (∀ j : Nat, j < n → SameW .f32 (el B j) (el l j)) ∧ Below w.heap.size w w' := by
  have HR := Aside0.mk hr
  have HC := Aside0.mk hc
  have HL := Aside0.mk hl
  clear hr hc hl
  go_enter Try.func21, Try.ntmps21
  go_wp2_with (first | ((with_reducible refine gate_dst (N := 7) rfl ?_); refine Kd.R_make (kw .f32) _ 38 rfl (N := 7) rfl 41 _ _ rfl (n : Int) rfl rfl Try.underlying41 (.agg #[.float .f32 0, .float .f32 0]) 8 (by kernel_rfl) rfl (by decide) (by omega) (0, 0) (ok := fun _ => True) (okp := fun _ => True) ⟨[.float .f32 0], [.float .f32 0], rfl, rfl, rfl⟩ (fun _ hk => hk) trivial (by omega) (by have := HL.out; omega) (Below.refl _ _) (Nat.le_refl _) ?_; intro vm wm hom hbm hg_ hnew_; clear hg_ hnew_; have HO := Aside0.mk hom; have HB := Aside0.mk hbm; clear hom hbm))
  go_loopw [4] (fun s4 wr => ∃ (i : Nat) (B : List (Nat × Nat)), s4 = .int .i64 (i : Int) ∧ Aside0 (i ≤ n ∧ B.length = n ∧ ∀ j : Nat, j < i → SameW .f32 (el B j) (el l j)) ∧ Aside0 ((kw .f32).R 38 wr w.heap.size (fun _ => True) vm B) ∧ Aside0 (Below w.heap.size w wr)) (fun i _ => n - (RowKit.intOf i).toNat)
  case atStart => exact ⟨0, _, rfl, ⟨by omega, by simp, fun j hj => by omega⟩, HO, HB⟩
  case round =>
    clear HO HB
    obtain ⟨i, B, rfl, HI, HO, HB⟩ := hrel
    by_cases hi : i < n
    · have hd : decide ((i : Int) < (n : Int)) = true := decide_eq_true (by omega)
      obtain ⟨ad, eA, hx, hx2⟩ := kw_read HR.out i hi
      subst eA
      replace hx := (HB.out.cell (World.block_lt_of_cell? w _ hx)).trans hx
      replace hx2 := (HB.out.cell (World.block_lt_of_cell? w _ hx2)).trans hx2
      have hBl := HI.out.2.1
      obtain ⟨g, co, eo, gb, gl, cl, hG⟩ := Kd.R_form HO.out (by omega)
      rw [hBl] at eo
      subst eo
      have GB := Aside0.mk gb
      clear hG gb gl hBl
      go_wp2_with fail
      refine (toSmall_any _ _ _).mono ?_
      rintro e w2 ⟨rfl, hb⟩
      replace HO := Aside0.mk (Kd.R_below HO.out hb)
      replace HB := Aside0.mk (HB.out.trans (hb.mono HB.out.size))
      clear hx hx2 hb
      obtain ⟨hy, hy2, hf, hf2⟩ := kw_cells HO.out i hi
      have HP := Aside0.mk (kw_put HO.out i hi (el l i).1 (el l i).2 trivial)
      have HS := Aside0.mk (set_el (R := fun j x => SameW .f32 x (el l j)) HI.out.2.1 hi HI.out.2.2 (SameW.refl .f32 (el l i)))
      have e1 := wk hi (by have := HL.out; omega)
      go_wp2
      exact ⟨⟨i + 1, _, congrArg (Value.int .i64) e1, ⟨by omega, HS.out⟩, ⟨HP.out⟩, ⟨below_set (below_set HB.out GB.out) GB.out⟩⟩, by rw [e1]; simp [RowKit.intOf]; omega⟩
    · have hd : decide ((i : Int) < (n : Int)) = false := decide_eq_false (by omega)
      go_wp2
      go_ret
      obtain rfl : i = n := by have := HI.out.1; omega
      exact ⟨_, B, rfl, HO.out, HI.out.2.1, HI.out.2.2, HB.out⟩
set_option maxHeartbeats 8000000 in
theorem eqSmallS_any (A0 : Option Addr) (c0 : Nat) (x : List (Nat × Nat)) (A1 : Option Addr) (c1 : Nat) (y : List (Nat × Nat)) (n : Nat) (w : World) (hr : (kw .f32).C w A0 n x) (hs : (kw .f32).C w A1 n y) (hn : n ≤ 1048576) (hu : ∀ j : Nat, j < n → SameW .f32 (el x j) (el y j)) :
    Calls Try.prog 24 #[.slice A0 n c0, .slice A1 n c1] w fun e w' => e = .returned (.bool true) ∧ Below w.heap.size w w' := by
  have HR := Aside0.mk hr
  have HS := Aside0.mk hs
  have HL := Aside0.mk hn
  have HU := Aside0.mk hu
  clear hr hs hn hu
  go_enter Try.func24, Try.ntmps24
  go_wp2
  go_loopw [5] (fun s5 wr => ∃ (i : Nat), s5 = .int .i64 (i : Int) ∧ Aside0 (i ≤ n) ∧ Aside0 (Below w.heap.size w wr)) (fun i _ => n - (RowKit.intOf i).toNat)
  case atStart => exact ⟨0, rfl, ⟨by omega⟩, ⟨Below.refl _ _⟩⟩
  case round =>
    obtain ⟨i, rfl, HI, HB⟩ := hrel
    by_cases hi : i < n
    · have hd : decide ((i : Int) < (n : Int)) = true := decide_eq_true (by omega)
      obtain ⟨ad, eA, hx, hx2⟩ := kw_read HR.out i hi
      subst eA
      replace hx := (HB.out.cell (World.block_lt_of_cell? w _ hx)).trans hx
      replace hx2 := (HB.out.cell (World.block_lt_of_cell? w _ hx2)).trans hx2
      obtain ⟨ad', eA, hy, hy2⟩ := kw_read HS.out i hi
      subst eA
      replace hy := (HB.out.cell (World.block_lt_of_cell? w _ hy)).trans hy
      replace hy2 := (HB.out.cell (World.block_lt_of_cell? w _ hy2)).trans hy2
      have hu := Aside0.mk (HU.out i hi)
      have e1 := wk hi (by have := HL.out; omega)
      go_upto_region 6 with fail
      refine region_spw (M := (fun _ => False)) (by kernel_rfl) [some 17, some 18, some 19, some 20, some 21, some 22, some 23, some 24, some 25, some 26] [u17, u18, u19, u20, u21, u22, u23, u24, u25, u26] [] [Rt.Sp.val (fun v u_ => v = .slice (some ad) n c0), Rt.Sp.val (fun v u_ => v = .int .i64 (i : Int)), Rt.Sp.val (fun v u_ => v = .pointer (some (ad.add (i * 2)))), Rt.Sp.val (fun v u_ => v = .agg #[.float .f32 (el x i).1, .float .f32 (el x i).2]), Rt.Sp.val (fun v u_ => v = .slice (some ad') n c1), Rt.Sp.val (fun v u_ => v = .int .i64 (i : Int)), Rt.Sp.val (fun v u_ => v = .pointer (some (ad'.add (i * 2)))), Rt.Sp.val (fun v u_ => v = .agg #[.float .f32 (el y i).1, .float .f32 (el y i).2]), Rt.Sp.val (fun v u_ => v = .bool true), Rt.Sp.val (fun v u_ => v = .bool false)] (by kernel_rfl) rfl (by kernel_rfl) (fun _ h => h.elim) ⟨(fun _ _ _ h _ => h), (fun _ _ _ h _ => h), (fun _ _ _ h _ => h), (fun _ _ _ h _ => h), (fun _ _ _ h _ => h), (fun _ _ _ h _ => h), (fun _ _ _ h _ => h), (fun _ _ _ h _ => h), (fun _ _ _ h _ => h), (fun _ _ _ h _ => h), trivial⟩ ⟨?_, ?_, ?_, ?_, ?_, ?_, ?_, ?_, ?_, ?_, trivial⟩ ?_
      · intro vs hl u1 hb hd
        obtain ⟨v0, v1, v2, v3, v4, v5, v6, v7, v8, v9, rfl⟩ := len10 hl
        clear hl
        intro K hK
        simp only [fs, fo, fz, Act.put, s1, s2, s3] at hK ⊢
        refine ⟨?_⟩
        go_simp
        exact hK _ _ (Mv.refl _ _) rfl
      · intro vs hl u1 hb hd
        obtain ⟨v0, v1, v2, v3, v4, v5, v6, v7, v8, v9, rfl⟩ := len10 hl
        clear hl
        intro K hK
        simp only [fs, fo, fz, Act.put, s1, s2, s3] at hK ⊢
        refine ⟨?_⟩
        go_simp
        exact hK _ _ (Mv.refl _ _) rfl
      · intro vs hl u1 hb hd
        obtain ⟨v0, v1, v2, v3, v4, v5, v6, v7, v8, v9, rfl⟩ := len10 hl
        clear hl
        obtain ⟨kh0, kh1, _⟩ := hd
        obtain rfl : v0 = .slice (some ad) n c0 := kh0
        obtain rfl : v1 = .int .i64 (i : Int) := kh1
        intro K hK
        simp only [fs, fo, fz, Act.put, s1, s2, s3] at hK ⊢
        refine ⟨?_⟩
        go_simp
        exact hK _ _ (Mv.refl _ _) rfl
      · intro vs hl u1 hb hd
        obtain ⟨v0, v1, v2, v3, v4, v5, v6, v7, v8, v9, rfl⟩ := len10 hl
        clear hl
        obtain ⟨kh2, _⟩ := hd
        obtain rfl : v2 = .pointer (some (ad.add (i * 2))) := kh2
        intro K hK
        have l0 := hb.cellv (show wr.drew.cell? _ = _ from hx) (fun h => h)
        have l1 := hb.cellv (show wr.drew.cell? _ = _ from hx2) (fun h => h)
        simp only [fs, fo, fz, Act.put, s1, s2, s3] at hK ⊢
        refine ⟨?_⟩
        go_simp
        exact hK _ _ (Mv.refl _ _) rfl
      · intro vs hl u1 hb hd
        obtain ⟨v0, v1, v2, v3, v4, v5, v6, v7, v8, v9, rfl⟩ := len10 hl
        clear hl
        intro K hK
        simp only [fs, fo, fz, Act.put, s1, s2, s3] at hK ⊢
        refine ⟨?_⟩
        go_simp
        exact hK _ _ (Mv.refl _ _) rfl
      · intro vs hl u1 hb hd
        obtain ⟨v0, v1, v2, v3, v4, v5, v6, v7, v8, v9, rfl⟩ := len10 hl
        clear hl
        intro K hK
        simp only [fs, fo, fz, Act.put, s1, s2, s3] at hK ⊢
        refine ⟨?_⟩
        go_simp
        exact hK _ _ (Mv.refl _ _) rfl
      · intro vs hl u1 hb hd
        obtain ⟨v0, v1, v2, v3, v4, v5, v6, v7, v8, v9, rfl⟩ := len10 hl
        clear hl
        obtain ⟨kh4, kh5, _⟩ := hd
        obtain rfl : v4 = .slice (some ad') n c1 := kh4
        obtain rfl : v5 = .int .i64 (i : Int) := kh5
        intro K hK
        simp only [fs, fo, fz, Act.put, s1, s2, s3] at hK ⊢
        refine ⟨?_⟩
        go_simp
        exact hK _ _ (Mv.refl _ _) rfl
      · intro vs hl u1 hb hd
        obtain ⟨v0, v1, v2, v3, v4, v5, v6, v7, v8, v9, rfl⟩ := len10 hl
        clear hl
        obtain ⟨kh6, _⟩ := hd
        obtain rfl : v6 = .pointer (some (ad'.add (i * 2))) := kh6
        intro K hK
        have l0 := hb.cellv (show wr.drew.cell? _ = _ from hy) (fun h => h)
        have l1 := hb.cellv (show wr.drew.cell? _ = _ from hy2) (fun h => h)
        simp only [fs, fo, fz, Act.put, s1, s2, s3] at hK ⊢
        refine ⟨?_⟩
        go_simp
        exact hK _ _ (Mv.refl _ _) rfl
      · intro vs hl u1 hb hd
        obtain ⟨v0, v1, v2, v3, v4, v5, v6, v7, v8, v9, rfl⟩ := len10 hl
        clear hl
        obtain ⟨kh3, kh7, _⟩ := hd
        obtain rfl : v3 = .agg #[.float .f32 (el x i).1, .float .f32 (el x i).2] := kh3
        obtain rfl : v7 = .agg #[.float .f32 (el y i).1, .float .f32 (el y i).2] := kh7
        intro K hK
        simp only [fs, fo, fz, Act.put, s1, s2, s3] at hK ⊢
        refine ⟨?_⟩
        go_simp
        refine (eqSmall_any hu.out.1 hu.out.2 _).mono ?_
        rintro e w2 ⟨rfl, hb2⟩
        exact hK _ _ (Mv.of hb2) rfl
      · intro vs hl u1 hb hd
        obtain ⟨v0, v1, v2, v3, v4, v5, v6, v7, v8, v9, rfl⟩ := len10 hl
        clear hl
        obtain ⟨kh8, _⟩ := hd
        obtain rfl : v8 = .bool true := kh8
        intro K hK
        simp only [fs, fo, fz, Act.put, s1, s2, s3] at hK ⊢
        refine ⟨?_⟩
        go_simp
        exact hK _ _ (Mv.refl _ _) rfl
      · intro vs hl w2 hb hd ha
        obtain ⟨v0, v1, v2, v3, v4, v5, v6, v7, v8, v9, rfl⟩ := len10 hl
        clear hl
        obtain ⟨kh0, kh1, kh2, kh3, kh4, kh5, kh6, kh7, kh8, kh9, _⟩ := hd
        obtain rfl : v0 = .slice (some ad) n c0 := kh0
        obtain rfl : v1 = .int .i64 (i : Int) := kh1
        obtain rfl : v2 = .pointer (some (ad.add (i * 2))) := kh2
        obtain rfl : v3 = .agg #[.float .f32 (el x i).1, .float .f32 (el x i).2] := kh3
        obtain rfl : v4 = .slice (some ad') n c1 := kh4
        obtain rfl : v5 = .int .i64 (i : Int) := kh5
        obtain rfl : v6 = .pointer (some (ad'.add (i * 2))) := kh6
        obtain rfl : v7 = .agg #[.float .f32 (el y i).1, .float .f32 (el y i).2] := kh7
        obtain rfl : v8 = .bool true := kh8
        obtain rfl : v9 = .bool false := kh9
        clear ha
        simp only [fs, fo, fz, Act.put, s1, s2, s3]
        replace HB := Aside0.mk (HB.out.trans (Below.trans (show Below w.heap.size wr wr.drew from pw_below_drewN (Below.refl _ _) 1) (hb.belowB HB.out.size (fun _ h => h.elim))))
        clear hb
        clear hx hx2 hy hy2
        go_wp2
        exact ⟨⟨i + 1, congrArg (Value.int .i64) e1, ⟨by omega⟩, HB⟩, by rw [e1]; simp [RowKit.intOf]; omega⟩
    · have hd : decide ((i : Int) < (n : Int)) = false := decide_eq_false (by omega)
      go_wp2
      go_ret
      exact ⟨rfl, HB.out⟩
end Go.Proofs.Ytphfmcdkldcmiaa.Fl
/- Drawn floats: some float each, whatever is drawn. -/
namespace Go.Proofs.Ytphfmcdkldcmiaa.Fl
open Go Go.RowKit Go.Proofs.YtphfmcdkldcmiaaW.PrintWords Go.Proofs.YtphfmcdkldcmiaaW.PrintLast Go.Proofs.YtphfmcdkldcmiaaW.PrintMore Go.Proofs.Ytphfmcdkldcmiaa.Rg Go.Proofs.Ytphfmcdkldcmiaa.Rs Go.Proofs.Ytphfmcdkldcmiaa.Cu
open Go.Proofs.Ytphfmcdkldcmiaa.Rt (Mv Near region_spw)
set_option linter.unusedVariables false
set_option linter.unusedSimpArgs false
theorem Cs.drewN {w0 W : World} {g n c : Nat} {A : Option Addr} {bs : List Int} (h : Cs w0 W g A n c bs) (m : Nat) : Cs w0 (W.drewN m) g A n c bs := h.move (below_drewN (Below.refl _ _) m)
theorem odd_any (k : Int) (z : Nat) (w : World) : Calls Try.prog 85 #[.int .i64 k, .float .f32 z] w fun e w' => (∃ x : Nat, e = .returned (.float .f32 x)) ∧ ∃ n, w' = w.drewN n := by
  have hq := fun (w : World) (t : TypeId) (x y : Nat) => run_fquo (P := Try.prog) w t .f32 x y
  by_cases h0 : k = 0
  · subst h0
    go_enter Try.func85, Try.ntmps85
    go_wp2
    go_ret
    exact ⟨⟨_, rfl⟩, 0, rfl⟩
  · by_cases h1 : k = 1
    · subst h1
      go_enter Try.func85, Try.ntmps85
      go_wp2
      go_ret
      exact ⟨⟨_, rfl⟩, _, rfl⟩
    · by_cases h2 : k = 2
      · subst h2
        go_enter Try.func85, Try.ntmps85
        go_wp2
        go_ret
        exact ⟨⟨_, rfl⟩, _, rfl⟩
      · have k0 : (k == 0) = false := by simp [h0]
        have k1 : (k == 1) = false := by simp [h1]
        have k2 : (k == 2) = false := by simp [h2]
        go_enter Try.func85, Try.ntmps85
        go_wp2
        go_ret
        exact ⟨⟨_, rfl⟩, _, rfl⟩
set_option maxHeartbeats 8000000 in
set_option maxRecDepth 100000 in
theorem drawFloat_any {w0 W : World} {g n c : Nat} {A : Option Addr} {bs : List Int} (h : Cs w0 W g A n c bs) :
    Calls Try.prog 83 #[.pointer (some ⟨g, 0, none⟩)] W fun e W' => (∃ x : Nat, e = .returned (.float .f32 x)) ∧ Cs w0 W' g A n c bs ∧ Only g W W' := by
  have hq := fun (w : World) (t : TypeId) (x y : Nat) => run_fquo (P := Try.prog) w t .f32 x y
  have uf := Try.underlying36
  have ui : (Try.prog.underlying 3).isSome = true := by rw [Try.underlying3]; rfl
  have HC := Aside0.mk h
  clear h
  go_enter Try.func83, Try.ntmps83
  go_wp2_with fail
  refine (below_any HC.out 9 (by omega) (by omega)).mono ?_
  rintro e W1 ⟨⟨t, ht0, ht1, rfl⟩, hc, hm⟩
  replace HC := Aside0.mk hc
  have HM := Aside0.mk hm
  clear hc hm
  have ht : t = 0 ∨ t = 1 ∨ t = 2 ∨ t = 3 ∨ t = 4 ∨ t = 5 ∨ t = 6 ∨ t = 7 ∨ t = 8 := by omega
  clear ht0 ht1
  rcases ht with rfl | rfl | rfl | rfl | rfl | rfl | rfl | rfl | rfl
  · go_wp2_with fail
    refine (below_any HC.out 2001 (by omega) (by omega)).mono ?_
    rintro e W2 ⟨⟨y, hy0, hy1, rfl⟩, hc, hm⟩
    replace HC := Aside0.mk hc
    replace HM := Aside0.mk (HM.out.trans hm)
    have ey : wrap64 (y - 1000) = y - 1000 := w64 _ (by omega) (by omega)
    clear hc hm
    go_wp2
    go_ret
    exact ⟨⟨_, rfl⟩, Cs.drewN HC.out _, HM.out.drewN _⟩
  · go_wp2_with fail
    refine (below_any HC.out 2001 (by omega) (by omega)).mono ?_
    rintro e W2 ⟨⟨y, hy0, hy1, rfl⟩, hc, hm⟩
    replace HC := Aside0.mk hc
    replace HM := Aside0.mk (HM.out.trans hm)
    clear hc hm
    have ey : wrap64 (y - 1000) = y - 1000 := w64 _ (by omega) (by omega)
    go_upto_region 6 with fail
    replace HC := Aside0.mk (Cs.drewN HC.out (fN .quo .f32 (floatOfInt .f32 (y - 1000)) 1077936128))
    replace HM := Aside0.mk (HM.out.drewN (fN .quo .f32 (floatOfInt .f32 (y - 1000)) 1077936128))
    generalize fAr .quo .f32 (floatOfInt .f32 (y - 1000)) 1077936128 W2 = x0
    generalize W2.drewN (fN .quo .f32 (floatOfInt .f32 (y - 1000)) 1077936128) = W3 at *
    go_wp2_with fail
    refine (below_any HC.out 60 (by omega) (by omega)).mono ?_
    rintro e W4 ⟨⟨v, hv0, hv1, rfl⟩, hc, hm⟩
    replace HC := Aside0.mk hc
    replace HM := Aside0.mk (HM.out.trans hm)
    obtain ⟨v, rfl⟩ := Int.eq_ofNat_of_zero_le hv0
    have HV := Aside0.mk hv1
    clear hc hm hv0 hv1 hy0 hy1 ey
    go_wp2
    go_loopw [3, 4] (fun s3 s4 wr => ∃ (i x : Nat), s3 = .float .f32 x ∧ s4 = .int .i64 (i : Int) ∧ Aside0 (i ≤ v) ∧ Aside0 (Below W4.heap.size W4 wr)) (fun _ i _ => (RowKit.intOf i).toNat)
    case atStart => exact ⟨v, x0, rfl, rfl, ⟨Nat.le_refl _⟩, ⟨Below.refl _ _⟩⟩
    case round =>
      obtain ⟨i, x, rfl, rfl, HI, HB⟩ := hrel
      by_cases hi : 0 < i
      · have hd : decide ((i : Int) > 0) = true := decide_eq_true (by omega)
        obtain ⟨i, rfl⟩ : ∃ j, i = j + 1 := ⟨i - 1, by omega⟩
        have e2 : wrap64 (i : Int) = (i : Int) := w64 _ (by omega) (by have := HI.out; have := HV.out; omega)
        go_wp2
        exact ⟨⟨i, _, rfl, congrArg (Value.int .i64) e2, ⟨by have := HI.out; omega⟩, ⟨below_drewN HB.out _⟩⟩, by rw [e2]; show ((i : Int)).toNat < (((i + 1 : Nat) : Int)).toNat; omega⟩
      · have hd : decide ((i : Int) > 0) = false := decide_eq_false (by omega)
        go_wp2
        go_ret
        exact ⟨⟨_, rfl⟩, HC.out.move HB.out, HM.out.trans (Mv.of HB.out)⟩
  · go_wp2_with fail
    refine (below_any HC.out 2001 (by omega) (by omega)).mono ?_
    rintro e W2 ⟨⟨y, hy0, hy1, rfl⟩, hc, hm⟩
    replace HC := Aside0.mk hc
    replace HM := Aside0.mk (HM.out.trans hm)
    clear hc hm
    have ey : wrap64 (y - 1000) = y - 1000 := w64 _ (by omega) (by omega)
    go_upto_region 13 with fail
    replace HC := Aside0.mk (Cs.drewN HC.out (fN .quo .f32 (floatOfInt .f32 (y - 1000)) 1077936128))
    replace HM := Aside0.mk (HM.out.drewN (fN .quo .f32 (floatOfInt .f32 (y - 1000)) 1077936128))
    generalize fAr .quo .f32 (floatOfInt .f32 (y - 1000)) 1077936128 W2 = x0
    generalize W2.drewN (fN .quo .f32 (floatOfInt .f32 (y - 1000)) 1077936128) = W3 at *
    go_wp2_with fail
    refine (below_any HC.out 80 (by omega) (by omega)).mono ?_
    rintro e W4 ⟨⟨v, hv0, hv1, rfl⟩, hc, hm⟩
    replace HC := Aside0.mk hc
    replace HM := Aside0.mk (HM.out.trans hm)
    obtain ⟨v, rfl⟩ := Int.eq_ofNat_of_zero_le hv0
    have HV := Aside0.mk hv1
    clear hc hm hv0 hv1 hy0 hy1 ey
    go_wp2
    go_loopw [5, 6] (fun s5 s6 wr => ∃ (i x : Nat), s5 = .float .f32 x ∧ s6 = .int .i64 (i : Int) ∧ Aside0 (i ≤ v) ∧ Aside0 (Below W4.heap.size W4 wr)) (fun _ i _ => (RowKit.intOf i).toNat)
    case atStart => exact ⟨v, x0, rfl, rfl, ⟨Nat.le_refl _⟩, ⟨Below.refl _ _⟩⟩
    case round =>
      obtain ⟨i, x, rfl, rfl, HI, HB⟩ := hrel
      by_cases hi : 0 < i
      · have hd : decide ((i : Int) > 0) = true := decide_eq_true (by omega)
        obtain ⟨i, rfl⟩ : ∃ j, i = j + 1 := ⟨i - 1, by omega⟩
        have e2 : wrap64 (i : Int) = (i : Int) := w64 _ (by omega) (by have := HI.out; have := HV.out; omega)
        go_wp2
        exact ⟨⟨i, _, rfl, congrArg (Value.int .i64) e2, ⟨by have := HI.out; omega⟩, ⟨below_drewN HB.out _⟩⟩, by rw [e2]; show ((i : Int)).toNat < (((i + 1 : Nat) : Int)).toNat; omega⟩
      · have hd : decide ((i : Int) > 0) = false := decide_eq_false (by omega)
        go_wp2
        go_ret
        exact ⟨⟨_, rfl⟩, HC.out.move HB.out, HM.out.trans (Mv.of HB.out)⟩
  · go_wp2_with fail
    refine (once_any HC.out 5 (by omega) (by omega)).mono ?_
    rintro e W2 ⟨⟨y, rfl⟩, hc, hm⟩
    replace HC := Aside0.mk hc
    replace HM := Aside0.mk (HM.out.trans hm)
    clear hc hm
    cases y with
    | true =>
      go_wp2_with fail
      refine (below_any HC.out 4 (by omega) (by omega)).mono ?_
      rintro e W3 ⟨⟨y, hy0, hy1, rfl⟩, hc, hm⟩
      replace HC := Aside0.mk hc
      replace HM := Aside0.mk (HM.out.trans hm)
      clear hc hm
      go_wp2_with fail
      refine (odd_any _ _ _).mono ?_
      rintro e W4 ⟨⟨x, rfl⟩, m, rfl⟩
      go_wp2
      go_ret
      exact ⟨⟨_, rfl⟩, Cs.drewN HC.out _, HM.out.drewN _⟩
    | false =>
      go_wp2_with fail
      refine (below_any HC.out 21 (by omega) (by omega)).mono ?_
      rintro e W2 ⟨⟨y, hy0, hy1, rfl⟩, hc, hm⟩
      replace HC := Aside0.mk hc
      replace HM := Aside0.mk (HM.out.trans hm)
      have ey : wrap64 (y - 10) = y - 10 := w64 _ (by omega) (by omega)
      clear hc hm
      go_wp2
      go_ret
      exact ⟨⟨_, rfl⟩, HC.out, HM.out⟩
  · go_wp2_with fail
    refine (below_any HC.out 81 (by omega) (by omega)).mono ?_
    rintro e W2 ⟨⟨y, hy0, hy1, rfl⟩, hc, hm⟩
    replace HC := Aside0.mk hc
    replace HM := Aside0.mk (HM.out.trans hm)
    have ey : wrap64 (y - 40) = y - 40 := w64 _ (by omega) (by omega)
    clear hc hm
    go_wp2
    go_ret
    exact ⟨⟨_, rfl⟩, Cs.drewN HC.out _, HM.out.drewN _⟩
  · go_wp2_with fail
    refine (below_any HC.out 81 (by omega) (by omega)).mono ?_
    rintro e W2 ⟨⟨y, hy0, hy1, rfl⟩, hc, hm⟩
    replace HC := Aside0.mk hc
    replace HM := Aside0.mk (HM.out.trans hm)
    have ey : wrap64 (y - 40) = y - 40 := w64 _ (by omega) (by omega)
    clear hc hm
    go_wp2
    go_ret
    exact ⟨⟨_, rfl⟩, Cs.drewN HC.out _, HM.out.drewN _⟩
  · go_wp2_with fail
    refine (below_any HC.out 21 (by omega) (by omega)).mono ?_
    rintro e W2 ⟨⟨y, hy0, hy1, rfl⟩, hc, hm⟩
    replace HC := Aside0.mk hc
    replace HM := Aside0.mk (HM.out.trans hm)
    have ey : wrap64 (y - 10) = y - 10 := w64 _ (by omega) (by omega)
    clear hc hm
    go_wp2
    go_ret
    exact ⟨⟨_, rfl⟩, HC.out, HM.out⟩
  · go_wp2_with fail
    refine (below_any HC.out 21 (by omega) (by omega)).mono ?_
    rintro e W2 ⟨⟨y, hy0, hy1, rfl⟩, hc, hm⟩
    replace HC := Aside0.mk hc
    replace HM := Aside0.mk (HM.out.trans hm)
    have ey : wrap64 (y - 10) = y - 10 := w64 _ (by omega) (by omega)
    clear hc hm
    go_wp2
    go_ret
    exact ⟨⟨_, rfl⟩, HC.out, HM.out⟩
  · go_wp2_with fail
    refine (below_any HC.out 21 (by omega) (by omega)).mono ?_
    rintro e W2 ⟨⟨y, hy0, hy1, rfl⟩, hc, hm⟩
    replace HC := Aside0.mk hc
    replace HM := Aside0.mk (HM.out.trans hm)
    have ey : wrap64 (y - 10) = y - 10 := w64 _ (by omega) (by omega)
    clear hc hm
    go_wp2
    go_ret
    exact ⟨⟨_, rfl⟩, HC.out, HM.out⟩
set_option maxHeartbeats 2000000 in
theorem drawSmall_any {w0 W : World} {g n c : Nat} {A : Option Addr} {bs : List Int} (h : Cs w0 W g A n c bs) :
    Calls Try.prog 81 #[.pointer (some ⟨g, 0, none⟩)] W fun e W' => (∃ x y : Nat, e = .returned (.agg #[.float .f32 x, .float .f32 y])) ∧ Cs w0 W' g A n c bs ∧ Only g W W' := by
  have hgl : g < W.heap.size := by obtain ⟨_, _, _, hB⟩ := h.cur; exact hB.lt
  have HC := Aside0.mk (h.move ((Below.refl W.heap.size W).alloc (Nat.le_refl _) (.cells #[.float .f32 0, .float .f32 0] 38)))
  have HM := Aside0.mk ((Mv.refl (fun k => k = g) W).alloc (.cells #[.float .f32 0, .float .f32 0] 38))
  have BX : Blk (W.alloc (.cells #[.float .f32 0, .float .f32 0] 38)) W.heap.size 38 #[.float .f32 0, .float .f32 0] := Blk.new _ _ _
  clear h
  go_enter Try.func81, Try.ntmps81
  go_upto_region 1 with fail
  generalize W.alloc (.cells #[.float .f32 0, .float .f32 0] 38) = W1 at HC HM BX ⊢
  go_wp2_with fail
  refine (drawFloat_any HC.out).mono ?_
  rintro e W2 ⟨⟨x, rfl⟩, hc, hm⟩
  replace BX := hm.blk BX (by omega)
  replace HC := Aside0.mk hc
  replace HM := Aside0.mk (HM.out.trans hm)
  clear hc hm
  go_wp2_with fail
  refine (drawFloat_any HC.out).mono ?_
  rintro e W3 ⟨⟨y, rfl⟩, hc, hm⟩
  replace BX := hm.blk BX (by omega)
  replace HC := Aside0.mk hc
  replace HM := Aside0.mk (HM.out.trans hm)
  clear hc hm
  obtain ⟨q0, q1⟩ := BX.two
  have f0 := BX.free 0
  have f1 := BX.free 1
  have CX : Blk ((W3.setCell ⟨W.heap.size, 0, none⟩ (.float .f32 x)).setCell ⟨W.heap.size, 1, none⟩ (.float .f32 y)) _ 38 #[.float .f32 x, .float .f32 y] := (BX.set 0 _).set 1 _
  obtain ⟨y0, y1⟩ := CX.two
  clear CX BX
  go_wp2
  refine ret_val ?_ rfl; simp [results, Try.results81, go_sem, y0, y1]
  refine ⟨?_, ((HM.out.set (.inr (Nat.le_refl _)) _).set (.inr (Nat.le_refl _)) _)⟩
  obtain ⟨hr, hb, hg, i, hh, h0, hB⟩ := HC.out
  have hw : w0.heap.size ≤ W.heap.size := by omega
  exact ⟨hr, below_st (below_st hb hw _) hw _, hg, i, hh, h0, (hB.far _ (by omega)).far _ (by omega)⟩
set_option maxHeartbeats 2000000 in
theorem twoSmall_any (A : Option Addr) (n c : Nat) (bs : List Int) (w : World) (hr : (Kd.int .u8).C w A n bs) (hn : n ≤ 1048576) :
    Calls Try.prog 70 #[.slice A n c] w fun e w' => (∃ x y p q : Nat, e = .returned (.tuple #[.agg #[.float .f32 x, .float .f32 y], .agg #[.float .f32 p, .float .f32 q]])) ∧ Below w.heap.size w w' := by
  have HR := Aside0.mk hr
  have HL := Aside0.mk hn
  clear hr hn
  go_enter Try.func70, Try.ntmps70
  go_upto_region 1 with fail
  have B2 : Blk ((w.alloc (.cells #[.float .f32 0, .float .f32 0] 38)).alloc (.cells #[.float .f32 0, .float .f32 0] 38)) w.heap.size 38 #[.float .f32 0, .float .f32 0] := (Blk.new w _ _).alloc _
  have B3 : Blk ((w.alloc (.cells #[.float .f32 0, .float .f32 0] 38)).alloc (.cells #[.float .f32 0, .float .f32 0] 38)) (w.heap.size + 1) 38 #[.float .f32 0, .float .f32 0] := Blk.newAt _ _ (by simp)
  have HB := Aside0.mk (below_al (below_al (Below.refl w.heap.size w) (.cells #[.float .f32 0, .float .f32 0] 38)) (.cells #[.float .f32 0, .float .f32 0] 38))
  generalize ((w.alloc (.cells #[.float .f32 0, .float .f32 0] 38)).alloc (.cells #[.float .f32 0, .float .f32 0] 38)) = W0 at B2 B3 HB ⊢
  go_wp2_with fail
  refine (new_any A n c bs W0 (Kd.C_below HR.out HB.out) HL.out).mono ?_
  rintro e W1 ⟨g, rfl, hc, hb, hgl⟩
  have HG := Aside0.mk (show W0.heap.size ≤ g from hc.hg)
  have hg1 : w.heap.size < g := by have := B3.lt; have := hc.hg; omega
  have hg2 : w.heap.size + 1 < g := by have := B3.lt; have := hc.hg; omega
  replace B2 := B2.below hb
  replace B3 := B3.below hb
  replace HB := Aside0.mk (HB.out.trans (hb.mono HB.out.size))
  have HC := Aside0.mk hc
  clear hc hb
  go_wp2_with fail
  refine (drawSmall_any HC.out).mono ?_
  rintro e W2 ⟨⟨x, y, rfl⟩, hc, hm⟩
  replace B2 := hm.blk B2 (by omega)
  replace B3 := hm.blk B3 (by omega)
  replace HB := Aside0.mk (HB.out.trans (hm.belowB HB.out.size (fun k hk => by omega)))
  replace HC := Aside0.mk hc
  clear hc hm
  go_wp2_with fail
  refine (drawSmall_any HC.out).mono ?_
  rintro e W3 ⟨⟨p, q, rfl⟩, hc, hm⟩
  replace B2 := hm.blk B2 (by omega)
  replace B3 := hm.blk B3 (by omega)
  replace HB := Aside0.mk (HB.out.trans (hm.belowB HB.out.size (fun k hk => by omega)))
  clear hc hm
  obtain ⟨q20, q21⟩ := B2.two
  obtain ⟨q30, q31⟩ := B3.two
  have f20 := B2.free 0
  have f21 := B2.free 1
  have f30 := B3.free 0
  have f31 := B3.free 1
  have C2 : Blk ((((W3.setCell ⟨w.heap.size, 0, none⟩ (.float .f32 x)).setCell ⟨w.heap.size, 1, none⟩ (.float .f32 y)).setCell ⟨w.heap.size + 1, 0, none⟩ (.float .f32 p)).setCell ⟨w.heap.size + 1, 1, none⟩ (.float .f32 q)) w.heap.size 38 #[.float .f32 x, .float .f32 y] := ((((B2.set 0 _).set 1 _).far _ (by omega : w.heap.size ≠ w.heap.size + 1)).far _ (by omega : w.heap.size ≠ w.heap.size + 1))
  have C3 : Blk ((((W3.setCell ⟨w.heap.size, 0, none⟩ (.float .f32 x)).setCell ⟨w.heap.size, 1, none⟩ (.float .f32 y)).setCell ⟨w.heap.size + 1, 0, none⟩ (.float .f32 p)).setCell ⟨w.heap.size + 1, 1, none⟩ (.float .f32 q)) (w.heap.size + 1) 38 #[.float .f32 p, .float .f32 q] := ((((B3.far _ (by omega : w.heap.size + 1 ≠ w.heap.size)).far _ (by omega : w.heap.size + 1 ≠ w.heap.size)).set 0 _).set 1 _)
  obtain ⟨y0, y1⟩ := C2.two
  obtain ⟨y2, y3⟩ := C3.two
  clear C2 C3 B2 B3
  go_wp2
  refine ret_val ?_ rfl; simp [results, Try.results70, go_sem, y0, y1, y2, y3]
  exact below_st (below_st (below_st (below_st HB.out (by simp) _) (by simp) _) (by simp) _) (by simp) _
set_option maxHeartbeats 2000000 in
theorem timesSmall_any (A : Option Addr) (n c : Nat) (bs : List Int) (w : World) (hr : (Kd.int .u8).C w A n bs) (hn : n ≤ 1048576) :
    Calls Try.prog 47 #[.slice A n c] w fun e w' => (∃ x y p q : Nat, e = .returned (.tuple #[.agg #[.float .f32 x, .float .f32 y], .agg #[.float .f32 p, .float .f32 q]])) ∧ Below w.heap.size w w' := by
  have HR := Aside0.mk hr
  have HL := Aside0.mk hn
  clear hr hn
  go_enter Try.func47, Try.ntmps47
  go_upto_region 1 with fail
  have B2 : Blk ((w.alloc (.cells #[.float .f32 0, .float .f32 0] 38)).alloc (.cells #[.float .f32 0, .float .f32 0] 38)) w.heap.size 38 #[.float .f32 0, .float .f32 0] := (Blk.new w _ _).alloc _
  have B3 : Blk ((w.alloc (.cells #[.float .f32 0, .float .f32 0] 38)).alloc (.cells #[.float .f32 0, .float .f32 0] 38)) (w.heap.size + 1) 38 #[.float .f32 0, .float .f32 0] := Blk.newAt _ _ (by simp)
  have HB := Aside0.mk (below_al (below_al (Below.refl w.heap.size w) (.cells #[.float .f32 0, .float .f32 0] 38)) (.cells #[.float .f32 0, .float .f32 0] 38))
  generalize ((w.alloc (.cells #[.float .f32 0, .float .f32 0] 38)).alloc (.cells #[.float .f32 0, .float .f32 0] 38)) = W0 at B2 B3 HB ⊢
  go_wp2_with fail
  refine (twoSmall_any A n c bs W0 (Kd.C_below HR.out HB.out) HL.out).mono ?_
  rintro e W3 ⟨⟨x, y, p, q, rfl⟩, hb⟩
  replace B2 := B2.below hb
  replace B3 := B3.below hb
  replace HB := Aside0.mk (HB.out.trans (hb.mono HB.out.size))
  clear hb
  obtain ⟨q20, q21⟩ := B2.two
  obtain ⟨q30, q31⟩ := B3.two
  have f20 := B2.free 0
  have f21 := B2.free 1
  have f30 := B3.free 0
  have f31 := B3.free 1
  have C2 : Blk ((((W3.setCell ⟨w.heap.size, 0, none⟩ (.float .f32 x)).setCell ⟨w.heap.size, 1, none⟩ (.float .f32 y)).setCell ⟨w.heap.size + 1, 0, none⟩ (.float .f32 p)).setCell ⟨w.heap.size + 1, 1, none⟩ (.float .f32 q)) w.heap.size 38 #[.float .f32 x, .float .f32 y] := ((((B2.set 0 _).set 1 _).far _ (by omega : w.heap.size ≠ w.heap.size + 1)).far _ (by omega : w.heap.size ≠ w.heap.size + 1))
  have C3 : Blk ((((W3.setCell ⟨w.heap.size, 0, none⟩ (.float .f32 x)).setCell ⟨w.heap.size, 1, none⟩ (.float .f32 y)).setCell ⟨w.heap.size + 1, 0, none⟩ (.float .f32 p)).setCell ⟨w.heap.size + 1, 1, none⟩ (.float .f32 q)) (w.heap.size + 1) 38 #[.float .f32 p, .float .f32 q] := ((((B3.far _ (by omega : w.heap.size + 1 ≠ w.heap.size)).far _ (by omega : w.heap.size + 1 ≠ w.heap.size)).set 0 _).set 1 _)
  obtain ⟨y0, y1⟩ := C2.two
  obtain ⟨y2, y3⟩ := C3.two
  clear C2 C3 B2 B3
  go_wp2
  refine ret_val ?_ rfl; simp [results, Try.results47, go_sem, y0, y1, y2, y3]
  exact below_st (below_st (below_st (below_st HB.out (by simp) _) (by simp) _) (by simp) _) (by simp) _
def IsWhole (x : Nat × Nat) : Prop := ∃ p q : Int, -100 ≤ p ∧ p ≤ 100 ∧ -100 ≤ q ∧ q ≤ 100 ∧ x = (floatOfInt .f32 p, floatOfInt .f32 q)
theorem push_whole {B : List (Nat × Nat)} {x : Nat × Nat} (h : ∀ j : Nat, j < B.length → IsWhole (el B j)) (hx : IsWhole x) : ∀ j : Nat, j < (B ++ [x]).length → IsWhole (el (B ++ [x]) j) := by
  intro j hj
  simp only [List.length_append, List.length_singleton] at hj
  unfold el at *
  by_cases e : j = B.length
  · subst e
    rw [List.getD_eq_getElem?_getD, List.getElem?_append_right (by omega), Nat.sub_self]
    exact hx
  · rw [List.getD_eq_getElem?_getD, List.getElem?_append_left (by omega), ← List.getD_eq_getElem?_getD]
    exact h j (by omega)
set_option maxHeartbeats 4000000 in
set_option maxRecDepth 100000 in
theorem whole_any (A : Option Addr) (n c : Nat) (bs : List Int) (w : World) (hr : (Kd.int .u8).C w A n bs) (hn : n ≤ 1048576) :
    Calls Try.prog 53 #[.slice A n c] w fun e w' => ∃ (v : Value) (B : List (Nat × Nat)), e = .returned v ∧ (kw .f32).R 38 w' w.heap.size (fun _ => True) v B ∧ B.length ≤ 39 ∧ (∀ j : Nat, j < B.length → IsWhole (el B j)) ∧ Below w.heap.size w w' := by
  have info : (Try.prog.info? 38).map (fun i => (i.zero, i.size, i.bytes)) = some (some (.agg #[.float .f32 0, .float .f32 0]), 2, 8) := by kernel_rfl
  have uf := Try.underlying36
  have ui : (Try.prog.underlying 3).isSome = true := by rw [Try.underlying3]; rfl
  have ct := new_any A n c bs w hr hn
  clear hr hn
  go_enter Try.func53, Try.ntmps53
  go_wp2_with fail
  refine ct.mono ?_
  rintro e W1 ⟨g, rfl, hc, hb, hgl⟩
  have HG := Aside0.mk (show w.heap.size ≤ g from hc.hg)
  have HB := Aside0.mk hb
  have HC := Aside0.mk hc
  have HGL := Aside0.mk hgl
  clear ct hc hb hgl
  go_wp2_with (first | ((with_reducible refine gate_dst (N := 8) rfl ?_); refine Kd.R_lit (kw .f32) (w0 := W1) W1.heap.size 38 ?hg (N := 8) ?hd (xs := ([] : List (Nat × Nat))) (inner := []) (ok := fun k => k ≠ g) (okp := fun k => k ≠ g) ?hr ?hp (fun _ hk => hk) (by have := HGL.out; omega) (Below.refl _ _) (Nat.le_refl _) (by simp) ?_; (case hd => rfl); (case hg => rfl); (case hr => first | (go_simp; done) | (go_simp; rfl)); (case hp => exact (Reps.none _ _)); intro vm wm hom hbm hg_ hnew_; clear hg_ hnew_; have HO := Aside0.mk (Kd.R_lower hom HB.out.size); replace HB := Aside0.mk (HB.out.trans (hbm.mono HB.out.size)); replace HC := Aside0.mk (HC.out.move hbm); replace HGL := Aside0.mk (Nat.lt_of_lt_of_le HGL.out hbm.size); clear hom hbm))
  refine (below_any HC.out 40 (by omega) (by omega)).mono ?_
  rintro e W2 ⟨⟨v, hv0, hv1, rfl⟩, hc, hm⟩
  replace HO := Aside0.mk (Kd.R_step HO.out (fun k hk hlt => hm.block k hlt hk))
  replace HB := Aside0.mk (HB.out.trans (hm.belowB HB.out.size (fun k hk => by have := HG.out; omega)))
  replace HC := Aside0.mk hc
  replace HGL := Aside0.mk (Nat.lt_of_lt_of_le HGL.out hm.size)
  obtain ⟨v, rfl⟩ := Int.eq_ofNat_of_zero_le hv0
  have HV := Aside0.mk hv1
  clear hc hm hv0 hv1
  go_wp2
  go_loopw [4, 5] (fun s4 s5 wr => ∃ (i : Nat) (B : List (Nat × Nat)), s5 = .int .i64 (i : Int) ∧ Aside0 (i ≤ v ∧ B.length + i = v ∧ ∀ j : Nat, j < B.length → IsWhole (el B j)) ∧ Aside0 ((kw .f32).R 38 wr w.heap.size (fun k => k ≠ g) s4 B) ∧ Aside0 (Cs w wr g A n c bs) ∧ Aside0 (g < wr.heap.size) ∧ Aside0 (Below w.heap.size w wr)) (fun _ i _ => (RowKit.intOf i).toNat)
  case atStart => exact ⟨v, _, rfl, ⟨Nat.le_refl _, by simp, fun j hj => by simp at hj⟩, HO, HC, HGL, HB⟩
  case round =>
    clear HO HB HC HGL
    obtain ⟨i, B, rfl, HI, HO, HC, HGL, HB⟩ := hrel
    by_cases hi : 0 < i
    · have hd : decide ((i : Int) > 0) = true := decide_eq_true (by omega)
      obtain ⟨i, rfl⟩ : ∃ j, i = j + 1 := ⟨i - 1, by omega⟩
      go_wp2_with fail
      refine (below_any HC.out 201 (by omega) (by omega)).mono ?_
      rintro e W3 ⟨⟨x, hx0, hx1, rfl⟩, hc, hm⟩
      replace HO := Aside0.mk (Kd.R_step HO.out (fun k hk hlt => hm.block k hlt hk))
      replace HB := Aside0.mk (HB.out.trans (hm.belowB HB.out.size (fun k hk => by have := HG.out; omega)))
      replace HC := Aside0.mk hc
      replace HGL := Aside0.mk (Nat.lt_of_lt_of_le HGL.out hm.size)
      have ex : wrap64 (x - 100) = x - 100 := w64 _ (by omega) (by omega)
      clear hc hm
      go_wp2_with fail
      refine (below_any HC.out 201 (by omega) (by omega)).mono ?_
      rintro e W4 ⟨⟨y, hy0, hy1, rfl⟩, hc, hm⟩
      replace HO := Aside0.mk (Kd.R_step HO.out (fun k hk hlt => hm.block k hlt hk))
      replace HB := Aside0.mk (HB.out.trans (hm.belowB HB.out.size (fun k hk => by have := HG.out; omega)))
      replace HC := Aside0.mk hc
      replace HGL := Aside0.mk (Nat.lt_of_lt_of_le HGL.out hm.size)
      have ey : wrap64 (y - 100) = y - 100 := w64 _ (by omega) (by omega)
      have HXY := Aside0.mk (show IsWhole (floatOfInt .f32 (x - 100), floatOfInt .f32 (y - 100)) from ⟨x - 100, y - 100, by omega, by omega, by omega, by omega, rfl⟩)
      have e2 : wrap64 (i : Int) = (i : Int) := w64 _ (by omega) (by have := HI.out.1; have := HV.out; omega)
      clear hc hm
      go_wp2_with (first | ((with_reducible refine gate_builtin (b := .append) (xs := #[.tmp 15, .tmp 25]) rfl ?_); at_builtin; refine Kd.R_append (kw .f32) (w0 := w) w.heap.size rfl (.tmp 15) (.tmp 25) 41 38 (.agg #[.float .f32 0, .float .f32 0]) 8 rfl Try.underlying41 info rfl (by decide) (by omega) u4 B (floatOfInt .f32 (x - 100), floatOfInt .f32 (y - 100)) [.float .f32 (floatOfInt .f32 (x - 100)), .float .f32 (floatOfInt .f32 (y - 100))] (fun k => k ≠ g) (fun _ => False) rfl rfl ⟨[_], [_], rfl, rfl, rfl⟩ (fun _ hk => hk.elim) (fun k hk => by have := HGL.out; omega) HO.out HB.out (below_size HB.out) (by have := HI.out.2.1; have := HV.out; omega) ?_; intro vn wn hon hbn hg hat; have HON := Aside0.mk hon; have HBN := Aside0.mk hbn; have HGR := Aside0.mk (And.intro (hg.block g HGL.out (fun he => HO.out.1 g he.symm rfl)) hg.size); clear hon hbn hg hat))
      refine ⟨⟨i, _, congrArg (Value.int .i64) e2, ⟨by have := HI.out.1; omega, by have := HI.out.2.1; simp; omega, push_whole HI.out.2.2 HXY.out⟩, HON, ?_, ⟨Nat.lt_of_lt_of_le HGL.out HGR.out.2⟩, HBN⟩, by rw [e2]; show ((i : Int)).toNat < (((i + 1 : Nat) : Int)).toNat; omega⟩
      obtain ⟨hr, hb, hg, i', hh, h0, hB⟩ := HC.out
      exact ⟨hr, HBN.out, hg, i', hh, h0, ⟨HGR.out.1.trans hB.out⟩⟩
    · have hd : decide ((i : Int) > 0) = false := decide_eq_false (by omega)
      go_wp2
      go_ret
      exact ⟨_, B, rfl, Kd.R_mono HO.out (fun _ _ => trivial), by have := HI.out.2.1; have := HV.out; omega, HI.out.2.2, HB.out⟩
end Go.Proofs.Ytphfmcdkldcmiaa.Fl
/- Whole numbers as floats: sums are exact, a small number's great one is the same; sums and products may be turned about. -/
namespace Go.Proofs.Ytphfmcdkldcmiaa.Fl
open Go Go.RowKit
set_option linter.unusedVariables false
set_option linter.unusedSimpArgs false
theorem cut_exact (s : Bool) (q r : Nat) : Ieee.Toward.even.cut s (q <<< r) r = q := by
  unfold Ieee.Toward.cut
  have hm : min r ((q <<< r).log2 + 2) = r ∨ q = 0 := by
    by_cases h : q = 0
    · exact .inr h
    · left
      have : r ≤ (q <<< r).log2 := by
        have h1 : 2 ^ r ≤ q <<< r := by rw [Nat.shiftLeft_eq]; exact Nat.le_mul_of_pos_left _ (by omega)
        exact (Nat.le_log2 (by rw [Nat.shiftLeft_eq]; exact Nat.mul_ne_zero h (by exact Nat.ne_of_gt (Nat.two_pow_pos r)))).2 h1
      omega
  rcases hm with hm | rfl
  · simp only [hm]
    have hg : 1 <<< r = 2 ^ r := by rw [Nat.shiftLeft_eq, Nat.one_mul]
    have hp : 0 < 2 ^ r := Nat.two_pow_pos r
    have hl : q <<< r / 1 <<< r = q := by rw [hg, Nat.shiftLeft_eq]; exact Nat.mul_div_cancel _ hp
    have hr : q <<< r % 1 <<< r = 0 := by rw [hg, Nat.shiftLeft_eq]; exact Nat.mul_mod_left ..
    rw [hl, hr]
    have h1 : decide (1 <<< r < 2 * 0) = false := decide_eq_false (by omega)
    have h2 : (1 <<< r == 2 * 0) = false := by rw [hg]; simp
    rw [h1, h2]
    rfl
  · simp
theorem log2_shift {m : Nat} (h : m ≠ 0) (k : Nat) : (m <<< k).log2 = m.log2 + k := by
  induction k with
  | zero => simp
  | succ k ih =>
    have hne : m <<< k ≠ 0 := by rw [Nat.shiftLeft_eq]; exact Nat.mul_ne_zero h (Nat.ne_of_gt (Nat.two_pow_pos k))
    rw [Nat.shiftLeft_succ, Nat.log2_two_mul hne, ih]
    omega
theorem shl_ne {m : Nat} (h : m ≠ 0) (k : Nat) : m <<< k ≠ 0 := by rw [Nat.shiftLeft_eq]; exact Nat.mul_ne_zero h (Nat.ne_of_gt (Nat.two_pow_pos k))
theorem shl_add (m a b : Nat) : m <<< a <<< b = m <<< (a + b) := by rw [Nat.shiftLeft_eq, Nat.shiftLeft_eq, Nat.shiftLeft_eq, Nat.pow_add, Nat.mul_assoc]
section
variable (f : Ieee.Format)
/-- The place of the last digit that is kept. -/
def lastP (m : Nat) (e : Int) : Int := max (e + m.log2 - f.fractionBits) f.leastPlace
theorem near_eq (s : Bool) {m : Nat} {e : Int} (d : Nat) (hm : m ≠ 0) (hl : m.log2 ≤ f.fractionBits) (he : f.leastPlace ≤ e) :
    f.nearest s (m <<< d) (e - d) = f.word s (min ((lastP f m e - f.leastPlace).toNat * f.binade + m <<< (e - lastP f m e).toNat) f.infRung) := by
  unfold Ieee.Format.nearest
  rw [if_neg (shl_ne hm d), log2_shift hm]
  have hL : max (e - (d : Int) + ((m.log2 + d : Nat) : Int) - f.fractionBits) f.leastPlace = lastP f m e := by unfold lastP; congr 1; omega
  simp only [hL]
  have hle : lastP f m e ≤ e := by unfold lastP; omega
  congr 2
  congr 1
  by_cases hd : (d : Int) ≤ e - lastP f m e
  · have h1 : (e - (d : Int) - lastP f m e).toNat = (e - lastP f m e).toNat - d := by omega
    have h2 : (lastP f m e - (e - (d : Int))).toNat = 0 := by omega
    rw [h1, h2, cut_zero, shl_add]
    congr 1
    omega
  · have h1 : (e - (d : Int) - lastP f m e).toNat = 0 := by omega
    have h2 : (lastP f m e - (e - (d : Int))).toNat = d - (e - lastP f m e).toNat := by omega
    rw [h1, h2, Nat.shiftLeft_zero]
    have h3 : m <<< d = (m <<< (e - lastP f m e).toNat) <<< (d - (e - lastP f m e).toNat) := by rw [shl_add]; congr 1; omega
    rw [h3, cut_exact]
theorem near_shift (s : Bool) {m : Nat} {e : Int} (d : Nat) (hm : m ≠ 0) (hl : m.log2 ≤ f.fractionBits) (he : f.leastPlace ≤ e) : f.nearest s (m <<< d) (e - d) = f.nearest s m e := by
  rw [near_eq f s d hm hl he]
  have := near_eq f s 0 hm hl he
  simp only [Nat.shiftLeft_zero, Int.natCast_zero, Int.sub_zero] at this
  exact this.symm
theorem read_word (s : Bool) {r : Nat} (h : r < f.infRung) : f.read (f.word s r) = if r < f.binade then .number s r f.leastPlace else .number s (f.binade + r % f.binade) (f.leastPlace + (r / f.binade - 1 : Nat)) := by
  have hlt : r < f.signWeight := Nat.lt_trans h f.infRung_lt
  have hpos : 0 < f.signWeight := by omega
  have hmod : f.word s r % f.signWeight = r := by
    unfold Ieee.Format.word
    split
    · rw [Nat.add_mod_left, Nat.mod_eq_of_lt hlt]
    · rw [Nat.mod_eq_of_lt hlt]
  have hneg : (f.word s r / f.signWeight % 2 == 1) = s := by
    unfold Ieee.Format.word
    cases s with
    | true =>
      rw [if_pos rfl, Nat.add_div_left _ hpos, Nat.div_eq_of_lt hlt]
      rfl
    | false =>
      rw [if_neg (by simp), Nat.div_eq_of_lt hlt]
      rfl
  unfold Ieee.Format.read
  simp only [hmod, hneg]
  by_cases hb : r < f.binade
  · rw [if_pos hb, if_pos hb]
  · rw [if_neg hb, if_neg hb, if_pos h]
theorem read_near (s : Bool) {m : Nat} {e : Int} (hm : m ≠ 0) (hl : m.log2 ≤ f.fractionBits) (he : f.leastPlace ≤ e) (hi : ((lastP f m e - f.leastPlace).toNat + 2) * f.binade ≤ f.infRung) :
    f.read (f.nearest s m e) = .number s (m <<< (e - lastP f m e).toNat) (lastP f m e) := by
  have h0 := near_eq f s 0 hm hl he
  simp only [Nat.shiftLeft_zero, Int.natCast_zero, Int.sub_zero] at h0
  rw [h0]
  have hb : f.binade = 2 ^ f.fractionBits := rfl
  have hbp : 0 < f.binade := by rw [hb]; exact Nat.two_pow_pos _
  have hle : lastP f m e ≤ e := by unfold lastP; omega
  have hge : f.leastPlace ≤ lastP f m e := by unfold lastP; omega
  -- what is kept is below two binades
  have hk1 : m <<< (e - lastP f m e).toNat < 2 * f.binade := by
    have h1 : m < 2 ^ (m.log2 + 1) := Nat.lt_log2_self
    rw [Nat.shiftLeft_eq, hb]
    have h2 : m.log2 + (e - lastP f m e).toNat ≤ f.fractionBits := by unfold lastP; omega
    calc m * 2 ^ (e - lastP f m e).toNat < 2 ^ (m.log2 + 1) * 2 ^ (e - lastP f m e).toNat := Nat.mul_lt_mul_of_pos_right h1 (Nat.two_pow_pos _)
      _ = 2 ^ (m.log2 + 1 + (e - lastP f m e).toNat) := by rw [← Nat.pow_add]
      _ ≤ 2 ^ (f.fractionBits + 1) := Nat.pow_le_pow_right (by omega) (by omega)
      _ = 2 * 2 ^ f.fractionBits := by rw [Nat.pow_succ, Nat.mul_comm]
  generalize hq : (lastP f m e - f.leastPlace).toNat = q at hi ⊢
  generalize hkk : m <<< (e - lastP f m e).toNat = k at hk1 ⊢
  have hr : q * f.binade + k < f.infRung := by
    have : (q + 2) * f.binade = q * f.binade + 2 * f.binade := Nat.add_mul ..
    omega
  rw [Nat.min_eq_left (Nat.le_of_lt hr), read_word f s hr]
  by_cases hnorm : f.leastPlace ≤ e + m.log2 - f.fractionBits
  · have hlast : lastP f m e = e + m.log2 - f.fractionBits := by unfold lastP; omega
    have hk2 : f.binade ≤ k := by
      rw [← hkk, hb, Nat.shiftLeft_eq]
      have h1 : 2 ^ m.log2 ≤ m := Nat.log2_self_le hm
      have h2 : (e - lastP f m e).toNat = f.fractionBits - m.log2 := by rw [hlast]; omega
      calc 2 ^ f.fractionBits = 2 ^ (m.log2 + (f.fractionBits - m.log2)) := by congr 1; omega
        _ = 2 ^ m.log2 * 2 ^ (f.fractionBits - m.log2) := by rw [Nat.pow_add]
        _ ≤ m * 2 ^ (e - lastP f m e).toNat := by rw [h2]; exact Nat.mul_le_mul_right _ h1
    have hnb : ¬ q * f.binade + k < f.binade := by omega
    rw [if_neg hnb]
    have hdiv : (q * f.binade + k) / f.binade = q + 1 := by
      have : q * f.binade + k = (k - f.binade) + (q + 1) * f.binade := by rw [Nat.add_mul, Nat.one_mul]; omega
      rw [this, Nat.add_mul_div_right _ _ hbp, Nat.div_eq_of_lt (by omega)]
      omega
    have hmod : (q * f.binade + k) % f.binade = k - f.binade := by
      have : q * f.binade + k = (k - f.binade) + (q + 1) * f.binade := by rw [Nat.add_mul, Nat.one_mul]; omega
      rw [this, Nat.add_mul_mod_self_right, Nat.mod_eq_of_lt (by omega)]
    rw [hdiv, hmod]
    congr 1
    · omega
    · omega
  · have hlast : lastP f m e = f.leastPlace := by unfold lastP; omega
    have hq0 : q = 0 := by rw [← hq, hlast]; omega
    subst hq0
    have hk2 : k < f.binade := by
      rw [← hkk, hb, Nat.shiftLeft_eq]
      have h1 : m < 2 ^ (m.log2 + 1) := Nat.lt_log2_self
      calc m * 2 ^ (e - lastP f m e).toNat < 2 ^ (m.log2 + 1) * 2 ^ (e - lastP f m e).toNat := Nat.mul_lt_mul_of_pos_right h1 (Nat.two_pow_pos _)
        _ = 2 ^ (m.log2 + 1 + (e - lastP f m e).toNat) := by rw [← Nat.pow_add]
        _ ≤ 2 ^ f.fractionBits := Nat.pow_le_pow_right (by omega) (by rw [hlast]; omega)
    rw [Nat.zero_mul, Nat.zero_add, if_pos hk2, hlast]
theorem read_zero (s : Bool) : f.read (f.word s 0) = .number s 0 f.leastPlace := by
  have hb : 0 < f.binade := Nat.two_pow_pos _
  by_cases h : 0 < f.infRung
  · rw [read_word f s h, if_pos hb]
  · have h0 : f.infRung = 0 := by omega
    have hlt : (0 : Nat) < f.signWeight := Nat.two_pow_pos _
    have hmod : f.word s 0 % f.signWeight = 0 := by unfold Ieee.Format.word; split <;> simp
    have hneg : (f.word s 0 / f.signWeight % 2 == 1) = s := by
      unfold Ieee.Format.word
      cases s with
      | true => rw [if_pos rfl, Nat.add_zero, Nat.div_self hlt]; rfl
      | false => rw [if_neg (by simp), Nat.zero_div]; rfl
    unfold Ieee.Format.read
    simp only [hmod, hneg]
    rw [if_pos hb]
end
/-! ### Whole numbers -/
/-- The word of a whole number. -/
def wW (f : Ieee.Format) (x : Int) : Nat := f.nearest (decide (x < 0)) x.natAbs 0
/-- Formats wide enough for the whole numbers here: 24 digits. -/
structure Wide (f : Ieee.Format) : Prop where
  fb : 23 ≤ f.fractionBits
  lp : f.leastPlace ≤ -(f.fractionBits : Int)
  inf : ((24 - f.fractionBits - f.leastPlace).toNat + 2) * f.binade ≤ f.infRung
theorem wide32 : Wide FloatKind.f32.format := ⟨by decide, by decide, by decide⟩
theorem wide64 : Wide FloatKind.f64.format := ⟨by decide, by decide, by decide⟩
theorem log2_lt24' {m : Nat} (h0 : m ≠ 0) (h : m < 16777216) : m.log2 ≤ 23 := by
  have := log2_lt24 h0 (show m < 2 ^ 24 by omega)
  omega
theorem read_whole {f : Ieee.Format} (hw : Wide f) (x : Int) (h0 : -16777216 < x) (h1 : x < 16777216) :
    ∃ K : Nat, f.read (wW f x) = .number (decide (x < 0)) (x.natAbs <<< K) (-(K : Int)) := by
  have := hw.fb
  have := hw.lp
  by_cases hz : x = 0
  · subst hz
    refine ⟨(-f.leastPlace).toNat, ?_⟩
    have hn : wW f 0 = f.word false 0 := by unfold wW Ieee.Format.nearest; rw [if_pos (by decide)]; rfl
    rw [hn, read_zero]
    congr 1
    · simp
    · omega
  · have hm : x.natAbs ≠ 0 := by omega
    have hl := log2_lt24' hm (by omega)
    have hlast : lastP f x.natAbs 0 = (x.natAbs.log2 : Int) - f.fractionBits := by unfold lastP; omega
    refine ⟨f.fractionBits - x.natAbs.log2, ?_⟩
    unfold wW
    rw [read_near f _ hm (by omega) (by omega) ?_]
    · congr 1
      · congr 1; rw [hlast]; omega
      · rw [hlast]; omega
    · refine Nat.le_trans (Nat.mul_le_mul_right _ ?_) hw.inf
      rw [hlast]; omega
theorem signed_whole (x : Int) (a b : Nat) : Ieee.signed (decide (x < 0)) (x.natAbs <<< a) b = x * ((2 ^ (a + b) : Nat) : Int) := by
  unfold Ieee.signed
  rw [shl_add, Nat.shiftLeft_eq]
  by_cases h : x < 0
  · rw [decide_eq_true h, if_pos rfl, Int.natCast_mul]
    have : (x.natAbs : Int) = -x := by omega
    rw [this, Int.neg_mul, Int.neg_neg]
  · rw [decide_eq_false h, if_neg (by simp), Int.natCast_mul]
    have : (x.natAbs : Int) = x := by omega
    rw [this]
theorem wW_shift {f : Ieee.Format} (hw : Wide f) (x : Int) (h0 : -16777216 < x) (h1 : x < 16777216) (K : Nat) (s : Bool) (hs : x ≠ 0 → s = decide (x < 0)) (hs0 : x = 0 → s = false) : f.nearest s (x.natAbs <<< K) (-(K : Int)) = wW f x := by
  have := hw.fb
  have := hw.lp
  by_cases hz : x = 0
  · rw [hs0 hz]
    subst hz
    unfold wW Ieee.Format.nearest
    simp
  · have hm : x.natAbs ≠ 0 := by omega
    have hl := log2_lt24' hm (by omega)
    rw [hs hz]
    have := near_shift f (decide (x < 0)) K hm (by omega) (e := 0) (by omega)
    rw [Int.zero_sub] at this
    exact this
theorem add_whole {f : Ieee.Format} (hw : Wide f) (a b : Int) (ha0 : -16777216 < a) (ha1 : a < 16777216) (hb0 : -16777216 < b) (hb1 : b < 16777216) (h0 : -16777216 < a + b) (h1 : a + b < 16777216) :
    f.add (wW f a) (wW f b) = some (wW f (a + b)) := by
  obtain ⟨Ka, ea⟩ := read_whole hw a ha0 ha1
  obtain ⟨Kb, eb⟩ := read_whole hw b hb0 hb1
  unfold Ieee.Format.add
  rw [ea, eb]
  simp only [Ieee.Datum.sum, Option.map_some]
  have hbase : min (-(Ka : Int)) (-(Kb : Int)) = -((max Ka Kb : Nat) : Int) := by omega
  have h2 : (-(Ka : Int) - min (-(Ka : Int)) (-(Kb : Int))).toNat = max Ka Kb - Ka := by omega
  have h3 : (-(Kb : Int) - min (-(Ka : Int)) (-(Kb : Int))).toNat = max Ka Kb - Kb := by omega
  rw [h2, h3, signed_whole, signed_whole, hbase]
  have e1 : Ka + (max Ka Kb - Ka) = max Ka Kb := by omega
  have e2 : Kb + (max Ka Kb - Kb) = max Ka Kb := by omega
  rw [e1, e2, ← Int.add_mul]
  generalize max Ka Kb = K
  have hpos : (0 : Int) < ((2 ^ K : Nat) : Int) := Int.natCast_pos.2 (Nat.two_pow_pos K)
  have habs : ((a + b) * ((2 ^ K : Nat) : Int)).natAbs = (a + b).natAbs <<< K := by rw [Int.natAbs_mul, Int.natAbs_natCast, Nat.shiftLeft_eq]
  rw [habs]
  show some (f.write _) = _
  congr 1
  simp only [Ieee.Format.write]
  refine wW_shift hw (a + b) h0 h1 K _ (fun hne => ?_) (fun he => ?_)
  · have hne2 : ¬ (a + b) * ((2 ^ K : Nat) : Int) = 0 := by
      intro h
      rcases Int.mul_eq_zero.1 h with h | h
      · exact hne h
      · omega
    rw [if_neg hne2]
    by_cases h : a + b < 0
    · rw [decide_eq_true h, decide_eq_true (Int.mul_neg_of_neg_of_pos h hpos)]
    · rw [decide_eq_false h, decide_eq_false (Int.not_lt.2 (Int.mul_nonneg (by omega) (by omega)))]
  · rw [he, Int.zero_mul, if_pos rfl]
    by_cases h : a < 0
    · have : ¬ b < 0 := by omega
      rw [decide_eq_false this, Bool.and_false]
    · rw [decide_eq_false h, Bool.false_and]
theorem floatOfInt_eq (k : FloatKind) (x : Int) : floatOfInt k x = wW k.format x := rfl
theorem fP_whole (k : FloatKind) (a b : Int) (ha0 : -16777216 < a) (ha1 : a < 16777216) (hb0 : -16777216 < b) (hb1 : b < 16777216) (h0 : -16777216 < a + b) (h1 : a + b < 16777216) : fP .add k (floatOfInt k a) (floatOfInt k b) = floatOfInt k (a + b) := by
  have hw : Wide k.format := by cases k; exact wide32; exact wide64
  unfold fP
  have : floatBits .add k (floatOfInt k a) (floatOfInt k b) = some (floatOfInt k (a + b)) := add_whole hw a b ha0 ha1 hb0 hb1 h0 h1
  rw [this]
  rfl
theorem gP_whole (x : Int) (h0 : -16777216 < x) (h1 : x < 16777216) : gP (floatOfInt .f32 x) = floatOfInt .f64 x := by
  obtain ⟨K, e⟩ := read_whole wide32 x h0 h1
  have e' : FloatKind.f32.decode (floatOfInt .f32 x) = .number (decide (x < 0)) (x.natAbs <<< K) (-(K : Int)) := e
  unfold gP
  rw [e']
  show FloatKind.f64.format.nearest _ _ _ = wW FloatKind.f64.format x
  refine wW_shift wide64 x h0 h1 K _ (fun _ => rfl) (fun he => by subst he; rfl)
/-! ### Turned about -/
theorem sum_comm (x y : Ieee.Datum) : x.sum y = y.sum x := by
  cases x with
  | nan s t => cases y <;> rfl
  | infinity s =>
    cases y with
    | nan _ _ => rfl
    | number _ _ _ => rfl
    | infinity t => cases s <;> cases t <;> rfl
  | number s m i =>
    cases y with
    | nan _ _ => rfl
    | infinity _ => rfl
    | number t n j =>
      simp only [Ieee.Datum.sum]
      rw [Int.min_comm j i, Int.add_comm (Ieee.signed t n _), Bool.and_comm t s]
theorem product_comm (x y : Ieee.Datum) : x.product y = y.product x := by
  cases x with
  | nan s t => cases y <;> rfl
  | infinity s =>
    cases y with
    | nan _ _ => rfl
    | number t n j => simp only [Ieee.Datum.product, Bool.xor_comm]
    | infinity t => simp only [Ieee.Datum.product, Bool.xor_comm]
  | number s m i =>
    cases y with
    | nan _ _ => rfl
    | infinity t => simp only [Ieee.Datum.product, Bool.xor_comm]
    | number t n j => simp only [Ieee.Datum.product, Bool.xor_comm, Nat.mul_comm, Int.add_comm]
theorem add_comm' (k : FloatKind) (x y : Nat) : fP .add k x y = fP .add k y x := by
  have : floatBits .add k x y = floatBits .add k y x := by
    show k.format.add x y = k.format.add y x
    unfold Ieee.Format.add
    rw [sum_comm]
  unfold fP
  rw [this]
theorem mul_comm' (k : FloatKind) (x y : Nat) : fP .mul k x y = fP .mul k y x := by
  have : floatBits .mul k x y = floatBits .mul k y x := by
    show k.format.mul x y = k.format.mul y x
    unfold Ieee.Format.mul
    rw [product_comm]
  unfold fP
  rw [this]
end Go.Proofs.Ytphfmcdkldcmiaa.Fl
/- A great number made small again: what a small number came to, comes back. -/
namespace Go.Proofs.Ytphfmcdkldcmiaa.Fl
open Go Go.RowKit
set_option linter.unusedVariables false
set_option linter.unusedSimpArgs false
def lW (y : Nat) (w : World) : Nat := match FloatKind.f64.decode y with
  | .nan _ _ => (Question.nanConv .f32 y).cut (w.tape w.drawn (.nanConv .f32 y))
  | .infinity s => FloatKind.f32.encode (.infinity s)
  | .number s m e => if (FloatKind.f32.decode (FloatKind.f32.encode (.number s m e))).isInfinity = true then (Question.floatToFloat y).cut (w.tape w.drawn (.floatToFloat y)) else FloatKind.f32.encode (.number s m e)
def lN (y : Nat) : Nat := match FloatKind.f64.decode y with
  | .nan _ _ => 1
  | .infinity _ => 0
  | .number s m e => if (FloatKind.f32.decode (FloatKind.f32.encode (.number s m e))).isInfinity = true then 1 else 0
section
variable {P : Program}
@[go_sem] theorem run_little (w : World) (src dst : TypeId) (y : Nat) (hs : P.underlying src = some (.float .f64)) (hd : P.underlying dst = some (.float .f32)) :
    (convert src dst (.float .f64 y)).run P w = .ok (.float .f32 (lW y w)) (w.drewN (lN y)) := by
  cases h : FloatKind.f64.decode y with
  | nan s t =>
    simp [convert, run_underlying hs, run_underlying hd, Conv.floatToFloat, h, lW, lN]
    rfl
  | infinity s =>
    simp [convert, run_underlying hs, run_underlying hd, Conv.floatToFloat, h, lW, lN, World.drewN_zero]
  | number s m e =>
    cases hi : (FloatKind.f32.decode (FloatKind.f32.encode (.number s m e))).isInfinity with
    | true =>
      simp [convert, run_underlying hs, run_underlying hd, Conv.floatToFloat, h, lW, lN, hi]
      rfl
    | false => simp [convert, run_underlying hs, run_underlying hd, Conv.floatToFloat, h, lW, lN, hi, World.drewN_zero]
end
/-- What came back is what was: equal, where it is a number. -/
def Back (x r : Nat) : Prop := nanB .f32 x = true ∨ FloatKind.f32.format.order r x = some .eq
theorem order_num {k : FloatKind} {r x : Nat} {s : Bool} {M m : Nat} {E e : Int} (hr : k.format.read r = .number s M E) (hx : k.format.read x = .number s m e) (hE : E ≤ e) (hM : M = m <<< (e - E).toNat) : k.format.order r x = some .eq := by
  unfold Ieee.Format.order
  rw [hr, hx]
  have h1 : min E e = E := by omega
  simp only [Ieee.Datum.order, h1, Int.sub_self, Int.toNat_zero]
  have : Ieee.signed s M 0 = Ieee.signed s m (e - E).toNat := by unfold Ieee.signed; rw [hM, Nat.shiftLeft_zero]
  rw [this]
  simp [compare, compareOfLessAndEq]
theorem back_little {x y : Nat} (hy : Same .f64 y (gP x)) (w : World) : Back x (lW y w) := by
  cases hx : FloatKind.f32.decode x with
  | nan s t => left; unfold nanB; rw [hx]; rfl
  | infinity s =>
    right
    have hg : gP x = FloatKind.f64.encode (.infinity s) := by unfold gP; rw [hx]
    have hd : FloatKind.f64.decode (FloatKind.f64.encode (.infinity s)) = .infinity s := by cases s <;> decide
    have hyg : y = gP x := by
      rcases hy with h | h
      · exact h
      · have := h.2; rw [hg] at this; unfold nanB at this; rw [hd] at this; cases this
    have e1 : lW y w = FloatKind.f32.encode (.infinity s) := by unfold lW; rw [hyg, hg, hd]
    rw [e1]
    have hr : FloatKind.f32.format.read (FloatKind.f32.encode (.infinity s)) = .infinity s := by cases s <;> decide
    have hx' : FloatKind.f32.format.read x = .infinity s := hx
    unfold Ieee.Format.order
    rw [hr, hx']
    cases s <;> rfl
  | number s m e =>
    right
    have hx' : FloatKind.f32.format.read x = .number s m e := hx
    obtain ⟨hm, he0, he1⟩ := f32_number hx
    have hg : gP x = FloatKind.f64.encode (.number s m e) := by unfold gP; rw [hx]
    have lp32 : FloatKind.f32.format.leastPlace = -149 := rfl
    have lp64 : FloatKind.f64.format.leastPlace = -1074 := rfl
    have fb32 : (FloatKind.f32.format.fractionBits : Int) = 23 := rfl
    have fb64 : (FloatKind.f64.format.fractionBits : Int) = 52 := rfl
    have fb32' : FloatKind.f32.format.fractionBits = 23 := rfl
    have fb64' : FloatKind.f64.format.fractionBits = 52 := rfl
    by_cases h0 : m = 0
    · subst h0
      have hn64 : FloatKind.f64.encode (.number s 0 e) = FloatKind.f64.format.word s 0 := rfl
      have hd : FloatKind.f64.decode (FloatKind.f64.encode (.number s 0 e)) = .number s 0 FloatKind.f64.format.leastPlace := read_zero _ s
      have hyg : y = gP x := by
        rcases hy with h | h
        · exact h
        · have := h.2; rw [hg] at this; unfold nanB at this; rw [hd] at this; cases this
      have hz : FloatKind.f32.decode (FloatKind.f32.encode (.number s 0 FloatKind.f64.format.leastPlace)) = .number s 0 FloatKind.f32.format.leastPlace := read_zero _ s
      have e1 : lW y w = FloatKind.f32.encode (.number s 0 FloatKind.f64.format.leastPlace) := by
        unfold lW; rw [hyg, hg, hd]
        simp only
        rw [hz, if_neg (by simp [Ieee.Datum.isInfinity])]
      rw [e1]
      exact order_num (k := .f32) (E := FloatKind.f32.format.leastPlace) hz hx' (by omega) (by simp)
    · have hl := log2_lt24' h0 (by omega)
      have hd : FloatKind.f64.decode (FloatKind.f64.encode (.number s m e)) = .number s (m <<< (e - lastP FloatKind.f64.format m e).toNat) (lastP FloatKind.f64.format m e) := by
        refine read_near FloatKind.f64.format s h0 (by rw [fb64']; omega) (by omega) ?_
        refine Nat.le_trans (Nat.mul_le_mul_right _ (show _ ≤ 2000 from ?_)) (by decide)
        unfold lastP; omega
      have hyg : y = gP x := by
        rcases hy with h | h
        · exact h
        · have := h.2; rw [hg] at this; unfold nanB at this; rw [hd] at this; cases this
      have hlast : lastP FloatKind.f64.format m e = e - ((52 - m.log2 : Nat) : Int) := by unfold lastP; omega
      have hsh : FloatKind.f32.encode (.number s (m <<< (e - lastP FloatKind.f64.format m e).toNat) (lastP FloatKind.f64.format m e)) = FloatKind.f32.format.nearest s m e := by
        show FloatKind.f32.format.nearest _ _ _ = _
        have h1 : (e - lastP FloatKind.f64.format m e).toNat = 52 - m.log2 := by omega
        rw [h1, hlast]
        exact near_shift FloatKind.f32.format s (52 - m.log2) h0 (by rw [fb32']; omega) (by omega)
      have hz : FloatKind.f32.decode (FloatKind.f32.format.nearest s m e) = .number s (m <<< (e - lastP FloatKind.f32.format m e).toNat) (lastP FloatKind.f32.format m e) := by
        refine read_near FloatKind.f32.format s h0 (by rw [fb32']; omega) (by omega) ?_
        refine Nat.le_trans (Nat.mul_le_mul_right _ (show _ ≤ 255 from ?_)) (by decide)
        unfold lastP; omega
      have e1 : lW y w = FloatKind.f32.format.nearest s m e := by
        unfold lW; rw [hyg, hg, hd]
        simp only
        rw [hsh, hz, if_neg (by simp [Ieee.Datum.isInfinity])]
      rw [e1]
      exact order_num (k := .f32) hz hx' (by unfold lastP; omega) rfl
theorem little_back {x0 x1 y0 y1 : Nat} (h0 : Same .f64 y0 (gP x0)) (h1 : Same .f64 y1 (gP x1)) (w : World) : Calls Try.prog 48 #[.agg #[.float .f64 y0, .float .f64 y1]] w fun e w' => ∃ r i : Nat, e = .returned (.agg #[.float .f32 r, .float .f32 i]) ∧ Back x0 r ∧ Back x1 i ∧ Below w.heap.size w w' := by
  have u32 := Try.underlying36
  have u64 := Try.underlying23
  have b0 := fun w => back_little h0 w
  have b1 := fun w => back_little h1 w
  clear h0 h1
  go_enter Try.func48, Try.ntmps48
  go_wp2
  all_goals (refine ret_val ?_ rfl; simp [results, Try.results48, go_sem]; exact ⟨_, _, ⟨rfl, rfl⟩, b0 _, b1 _, (by repeat (first | exact Below.refl _ _ | apply below_al | apply below_drewN | refine below_st ?_ (by simp; try omega) _))⟩)
end Go.Proofs.Ytphfmcdkldcmiaa.Fl
