import Derived.WalkKit
import Derived.Orders
import Derived.KernelRfl
import Derived.Deep.Draws
import Derived.Test.YtphfmcdkldcmiaaBFnExactTideDay1
import Derived.Deep.DeepCutAuto
/- A region that draws its order, its operations none of them guarded, of which all but the last only read, reckon, call or make memory: what each yields is told once, whatever the order. -/
namespace Go.Proofs.Ytphfmcdkldcmiaa.Reg
open Go Go.RowKit

section
variable {P : Program} {ops : Array Oper} {Q : Exit → Act → World → Prop} {md : Region.Mode}

/-- How many have not come up. -/
def left (listed : Array Bool) : Nat := listed.toList.countP (fun b => !b)
theorem left_set {listed : Array Bool} {i : Nat} (h : listed.getD i true = false) : left listed = left (listed.setIfInBounds i true) + 1 := by
  have hi : i < listed.size := by
    rcases Nat.lt_or_ge i listed.size with h' | h'
    · exact h'
    · simp [Array.getD, Nat.not_lt.2 h'] at h
  have hv : listed[i] = false := by simpa [Array.getD, hi] using h
  unfold left
  rw [Array.toList_setIfInBounds]
  have hl : i < listed.toList.length := by simpa using hi
  have hv' : listed.toList[i] = false := by simpa using hv
  have key : ∀ (l : List Bool) (i : Nat) (hl : i < l.length), l[i] = false → l.countP (fun b => !b) = (l.set i true).countP (fun b => !b) + 1 := by
    intro l
    induction l with
    | nil => intro i hl; simp at hl
    | cons b l ih =>
      intro i hl hv
      cases i with
      | zero =>
        obtain rfl : b = false := by simpa using hv
        simp
      | succ i =>
        have := ih i (by simpa using hl) (by simpa using hv)
        cases b <;> simp [this]
  exact key _ i hl hv'
theorem left_zero {listed : Array Bool} (h : left listed = 0) : Region.ready md ops listed = [] := by
  have hall : ∀ i, listed.getD i true = true := by
    intro i
    cases hb : listed.getD i true with
    | true => rfl
    | false => have := left_set hb; omega
  unfold Region.ready
  rw [List.filter_eq_nil_iff]
  intro i _
  simp [hall]

theorem wpAny_inv {I : Array Bool → Act → World → Prop}
    (step : ∀ listed a w, I listed a w → ∀ i ∈ Region.ready md ops listed, wpOp P ops Q i (I (listed.setIfInBounds i true)) a w)
    (done : ∀ listed a w, I listed a w → Region.ready md ops listed = [] → Q .normal a w) :
    ∀ (fuel : Nat) (listed : Array Bool) (a : Act) (w : World), listed.size = ops.size → left listed ≤ fuel → I listed a w → wpAny P md ops Q fuel listed a w := by
  intro fuel
  induction fuel with
  | zero =>
    intro listed a w hs hl hI
    have hr := left_zero (md := md) (ops := ops) (Nat.le_zero.1 hl)
    exact ⟨hr, done _ _ _ hI hr⟩
  | succ fuel ih =>
    intro listed a w hs hl hI
    refine ⟨fun hr => done _ _ _ hI hr, fun i hi => ?_⟩
    have h1 := (mem_ready.1 hi).1
    have h2 := left_set h1
    exact wpOp_mono (fun a' w' h' => ih _ a' w' (by simpa using hs) (by omega) h') (step _ _ _ hI i hi)

/-- The frame with these slots filled. -/
def fill (a : Act) (ds : List Tmp) (vs : List Value) : Act := { a with tmps := (ds.zip vs).foldl (fun t x => t.setIfInBounds x.1 x.2) a.tmps }
theorem fill_set {a : Act} : ∀ {ds : List Tmp} {vs : List Value} {i : Nat} {d : Tmp} {v : Value}, ds.Nodup → vs.length = ds.length → ds[i]? = some d → (fill a ds vs).put (some d) v = fill a ds (vs.set i v) := by
  have comm : ∀ (l : List (Tmp × Value)) (t : Array Value) (d : Tmp) (v : Value), (∀ x ∈ l, x.1 ≠ d) → (l.foldl (fun t x => t.setIfInBounds x.1 x.2) t).setIfInBounds d v = l.foldl (fun t x => t.setIfInBounds x.1 x.2) (t.setIfInBounds d v) := by
    intro l
    induction l with
    | nil => intro t d v _; rfl
    | cons x l ih =>
      intro t d v h
      simp only [List.foldl_cons]
      rw [ih _ _ _ (fun y hy => h y (List.mem_cons_of_mem _ hy)), Array.setIfInBounds_comm _ _ (h x List.mem_cons_self)]
  intro ds vs i d v hnd hl hd
  unfold fill Act.put
  simp only
  congr 1
  revert vs i a
  induction ds with
  | nil => intro a vs i hl hd; simp at hd
  | cons d0 ds ih =>
    intro a vs i hl hd
    cases vs with
    | nil => simp at hl
    | cons v0 vs =>
      obtain ⟨hn0, hn⟩ := List.nodup_cons.1 hnd
      cases i with
      | zero =>
        obtain rfl : d0 = d := by simpa using hd
        simp only [List.zip_cons_cons, List.foldl_cons, List.set_cons_zero]
        rw [comm]
        · simp [Array.setIfInBounds_setIfInBounds]
        · intro x hx he
          exact hn0 (he ▸ (List.of_mem_zip hx).1)
      | succ i =>
        simp only [List.zip_cons_cons, List.foldl_cons, List.set_cons_succ]
        exact ih (a := { a with tmps := a.tmps.setIfInBounds d0 v0 }) hn (by simpa using hl) (by simpa using hd)

/-- The operations' destinations are these, each another; none is guarded; the last one waits for all. -/
def plainB (md : Region.Mode) (ops : Array Oper) (ds : List Tmp) : Bool :=
  (ops.size == ds.length + 1) && (List.range ds.length).all (fun i => match ops[i]? with | some o => (o.dst == ds[i]?) && o.guard.isNone && o.after.all (fun e => decide (e.on < i)) | none => false) &&
  decide ds.Nodup && (match ops[ds.length]? with | some o => o.guard.isNone && o.after.all (fun e => decide (e.on < ds.length)) && (List.range ds.length).all (fun j => o.after.any fun e => Region.binds md e && e.on == j) | none => false)

/-- What the first operations yield: number i the value v, which in the world w is as V i says; a later world that keeps what there was keeps V. -/
theorem region_any {id : Nat} {a0 : Act} {w0 : World} (hm : P.follows .mixedOrders = true) (ds : List Tmp) (hds : plainB .any ops ds = true) (vs0 : List Value) (hvs0 : vs0.length = ds.length) (ha0 : fill a0 ds vs0 = a0)
    (V : Nat → Value → World → Prop) (hV : ∀ i v w w', V i v w → Below w.heap.size w w' → V i v w')
    (hstep : ∀ i, i < ds.length → ∀ oi, ops[i]? = some oi → ∀ vs, vs.length = ds.length → ∀ w, Below w0.drew.heap.size w0.drew w → (∀ e ∈ oi.after, Region.binds .any e = true → V e.on (vs.getD e.on undef) w) →
      ∀ K : Act → World → Prop, (∀ v w', Below w.heap.size w w' → V i v w' → K ((fill a0 ds vs).put oi.dst v) w') → oi.wp P (fill a0 ds vs) w K Q)
    (hlast : ∀ o, ops[ds.length]? = some o → ∀ vs, vs.length = ds.length → ∀ w, Below w0.drew.heap.size w0.drew w → (∀ j, j < ds.length → V j (vs.getD j undef) w) → ∀ K : Act → World → Prop, (∀ a' w', Q .normal a' w' → K a' w') → o.wp P (fill a0 ds vs) w K Q) :
    (Code.region id ops true).wp P Q a0 w0 := by
  unfold plainB at hds
  simp only [Bool.and_eq_true, beq_iff_eq, decide_eq_true_eq] at hds
  obtain ⟨⟨⟨hsz, hall⟩, hnd⟩, hlst⟩ := hds
  refine wp_region_any hm ?_
  have hset : ∀ (listed : Array Bool) (i : Nat), i < listed.size → (listed.setIfInBounds i true).getD i true = true := fun listed i h => by simp [Array.getD, h]
  have hTF : ∀ (listed : Array Bool) (j : Nat), listed.getD j false = true → listed.getD j true = true := fun listed j h => by
    rcases Nat.lt_or_ge j listed.size with h' | h'
    · simpa [Array.getD, h'] using h
    · simp [Array.getD, Nat.not_lt.2 h'] at h
  refine wpAny_inv (I := fun listed a w => listed.size = ops.size ∧ if listed.getD ds.length true = true then Q .normal a w ∧ ∀ j, listed.getD j true = true else
      ∃ vs, vs.length = ds.length ∧ a = fill a0 ds vs ∧ Below w0.drew.heap.size w0.drew w ∧ ∀ j, j < ds.length → listed.getD j true = true → V j (vs.getD j undef) w) ?_ ?_ _ _ _ _ (by simp) ?_ ?_
  · intro listed a w hI i hi
    obtain ⟨hsl, hI⟩ := hI
    obtain ⟨hun, oi, hoi, haft⟩ := mem_ready.1 hi
    have hio : i < ops.size := (Array.getElem?_eq_some_iff.1 hoi).1
    have hilt : i < listed.size := by omega
    unfold wpOp
    rw [hoi]
    simp only
    by_cases hil : i = ds.length
    · subst hil
      rw [hoi] at hlst
      simp only [Bool.and_eq_true, Option.isNone_iff_eq_none] at hlst
      rw [if_pos (by simp [Region.wanted, hlst.1.1])]
      rw [if_neg (fun h => by rw [hun] at h; cases h)] at hI
      obtain ⟨vs, hl, rfl, hb, hv⟩ := hI
      have hdone : ∀ j, j < ds.length → listed.getD j true = true := fun j hj => by
        have h1 := List.all_eq_true.1 hlst.2 j (List.mem_range.2 hj)
        obtain ⟨e, he, h2⟩ := Array.any_eq_true'.1 h1
        simp only [Bool.and_eq_true, beq_iff_eq] at h2
        have h3 := haft e he h2.1
        rw [h2.2] at h3
        exact hTF _ _ h3
      refine .inl (Oper.wp_mono (fun a' w' h' => ?_) (hlast oi hoi vs hl w hb (fun j hj => hv j hj (hdone j hj)) (fun a' w' => Q .normal a' w') (fun _ _ h => h)))
      refine ⟨by simpa using hsl, ?_⟩
      rw [if_pos (hset _ _ hilt)]
      refine ⟨h', fun j => ?_⟩
      by_cases hj : j < ds.length
      · rw [getD_set_ne true (by omega)]; exact hdone j hj
      · by_cases hj2 : j = ds.length
        · subst hj2; exact hset _ _ hilt
        · have : ¬ j < (listed.setIfInBounds ds.length true).size := by simp; omega
          simp only [Array.getD, this, dif_neg, not_false_eq_true]
    · have hid : i < ds.length := by omega
      have h1 := List.all_eq_true.1 hall i (List.mem_range.2 hid)
      rw [hoi] at h1
      simp only [Bool.and_eq_true, beq_iff_eq, Option.isNone_iff_eq_none] at h1
      obtain ⟨⟨hdst, hg⟩, hon⟩ := h1
      rw [if_pos (by simp [Region.wanted, hg])]
      have hn : ¬ listed.getD ds.length true = true := fun hy => by
        rw [if_pos hy] at hI
        rw [hI.2 i] at hun
        cases hun
      rw [if_neg hn] at hI
      obtain ⟨vs, hl, rfl, hb, hv⟩ := hI
      refine .inl (Oper.wp_mono (fun a' w' h' => ?_) (hstep i hid oi hoi vs hl w hb (fun e he hbd => ?_) (fun a' w' => ∃ v, a' = (fill a0 ds vs).put oi.dst v ∧ Below w.heap.size w w' ∧ V i v w') (fun v w' hb hv => ⟨v, rfl, hb, hv⟩)))
      · obtain ⟨v, rfl, hbw, hvi⟩ := h'
        refine ⟨by simpa using hsl, ?_⟩
        rw [getD_set_ne true hil, if_neg hn]
        have hdi : ds[i]? = some ds[i] := List.getElem?_eq_getElem hid
        rw [hdst, hdi, fill_set hnd hl hdi]
        refine ⟨_, by simpa using hl, rfl, hb.trans (hbw.mono hb.size), fun j hj hjl => ?_⟩
        by_cases hji : i = j
        · subst hji
          rw [List.getD_eq_getElem?_getD, List.getElem?_set_self (by omega)]
          exact hvi
        · rw [getD_set_ne true hji] at hjl
          have := hV j _ _ _ (hv j hj hjl) hbw
          rw [List.getD_eq_getElem?_getD, List.getElem?_set_ne hji, ← List.getD_eq_getElem?_getD]
          exact this
      · have hlt : e.on < ds.length := by
          have := Array.all_eq_true_iff_forall_mem.1 hon e he
          have : e.on < i := by simpa using this
          omega
        exact hv e.on hlt (hTF _ _ (haft e he hbd))
  · intro listed a w hI hr
    obtain ⟨hsl, hI⟩ := hI
    have hall' : listed.getD ds.length true = true := by
      -- the first that has not come up could come up
      refine Classical.byContradiction fun hn => ?_
      have hn' : listed.getD ds.length true = false := by simpa using hn
      have hleast : ∀ m, m ≤ ds.length → listed.getD m true = false → ∃ i, listed.getD i true = false ∧ ∀ j, j < i → listed.getD j true = true := by
        intro m
        induction m using Nat.strongRecOn with
        | _ m ih =>
          intro hm hmf
          by_cases hex : ∃ j, j < m ∧ listed.getD j true = false
          · obtain ⟨j, hj, hjf⟩ := hex
            exact ih j hj (by omega) hjf
          · refine ⟨m, hmf, fun j hj => ?_⟩
            cases hb : listed.getD j true with
            | true => rfl
            | false => exact absurd ⟨j, hj, hb⟩ hex
      obtain ⟨i, hif, hil⟩ := hleast _ (Nat.le_refl _) hn'
      have hi : i < listed.size := by
        rcases Nat.lt_or_ge i listed.size with h' | h'
        · exact h'
        · simp [Array.getD, Nat.not_lt.2 h'] at hif
      have hTF' : ∀ j, j < i → listed.getD j false = true := fun j hj => by
        have := hil j hj
        have hj' : j < listed.size := by omega
        simpa [Array.getD, hj'] using this
      have hio : i < ops.size := by omega
      have hmem : i ∈ Region.ready .any ops listed := by
        refine mem_ready.2 ⟨hif, ops[i], Array.getElem?_eq_getElem hio, fun e he _ => hTF' e.on ?_⟩
        by_cases hid : i < ds.length
        · have h1 := List.all_eq_true.1 hall i (List.mem_range.2 hid)
          rw [Array.getElem?_eq_getElem hio] at h1
          simp only [Bool.and_eq_true] at h1
          have := Array.all_eq_true_iff_forall_mem.1 h1.2 e he
          simpa using this
        · obtain rfl : i = ds.length := by omega
          rw [Array.getElem?_eq_getElem hio] at hlst
          simp only [Bool.and_eq_true] at hlst
          have := Array.all_eq_true_iff_forall_mem.1 hlst.1.2 e he
          simpa using this
      rw [hr] at hmem
      cases hmem
    rw [if_pos hall'] at hI
    exact hI.1
  · unfold left
    exact Nat.le_trans List.countP_le_length (by simp)
  · refine ⟨by simp, ?_⟩
    have hf : ∀ j, j < ops.size → (Array.replicate ops.size false).getD j true = false := fun j hj => by simp [Array.getD, hj]
    rw [if_neg (by rw [hf _ (by omega)]; simp)]
    refine ⟨vs0, hvs0, ha0.symm, Below.refl _ _, fun j hj hjl => ?_⟩
    rw [hf j (by omega)] at hjl
    cases hjl
end

/-! ### The same, told along the list of the operations -/
section
variable {P : Program} {Q : Exit → Act → World → Prop}
def predAt (Vs : List (Value → World → Prop)) (j : Nat) : Value → World → Prop := Vs.getD j (fun _ _ => True)
/-- The facts of these numbers. -/
def Known (Vs : List (Value → World → Prop)) (vs : List Value) (w : World) : List Nat → Prop
  | [] => True
  | j :: js => predAt Vs j (vs.getD j undef) w ∧ Known Vs vs w js
theorem known_of {Vs : List (Value → World → Prop)} {vs : List Value} {w : World} {l : List Nat} (h : ∀ j ∈ l, predAt Vs j (vs.getD j undef) w) : Known Vs vs w l := by
  induction l with
  | nil => trivial
  | cons j js ih => exact ⟨h j List.mem_cons_self, ih (fun k hk => h k (List.mem_cons_of_mem _ hk))⟩
/-- The numbers that an operation waits for. -/
def deps (o : Oper) : List Nat := (o.after.toList.filter fun e => Region.binds .any e).map (·.on)
/-- A goal that no tactic looks into. -/
structure Still (p : Prop) : Prop where mk :: (out : p)
def StepOk (P : Program) (Q : Exit → Act → World → Prop) (a0 : Act) (W : World) (ds : List Tmp) (Vs : List (Value → World → Prop)) (i : Nat) (o : Oper) : Prop :=
  ∀ vs : List Value, vs.length = ds.length → ∀ w, Below W.heap.size W w → Known Vs vs w (deps o) →
    ∀ K : Act → World → Prop, (∀ v w', Below w.heap.size w w' → predAt Vs i v w' → K ((fill a0 ds vs).put o.dst v) w') → Still (o.wp P (fill a0 ds vs) w K Q)
def seqFrom : Nat → List Tmp → List Nat
  | _, [] => []
  | k, _ :: r => k :: seqFrom (k + 1) r
theorem mem_seqFrom : ∀ {ds : List Tmp} {k j : Nat}, j ∈ seqFrom k ds → k ≤ j ∧ j < k + ds.length := by
  intro ds
  induction ds with
  | nil => intro k j h; cases h
  | cons d r ih =>
    intro k j h
    rcases List.mem_cons.1 h with rfl | h
    · simp
    · have := ih h
      simp only [List.length_cons]
      omega
def LastOk (P : Program) (Q : Exit → Act → World → Prop) (a0 : Act) (W : World) (ds : List Tmp) (Vs : List (Value → World → Prop)) (o : Oper) : Prop :=
  ∀ vs : List Value, vs.length = ds.length → ∀ w, Below W.heap.size W w → Known Vs vs w (seqFrom 0 ds) →
    ∀ K : Act → World → Prop, (∀ a' w', Q .normal a' w' → K a' w') → Still (o.wp P (fill a0 ds vs) w K Q)
def StepsOk (P : Program) (Q : Exit → Act → World → Prop) (a0 : Act) (W : World) (ds : List Tmp) (Vs : List (Value → World → Prop)) : Nat → List Oper → Prop
  | _, [] => True
  | _, [o] => LastOk P Q a0 W ds Vs o
  | i, o :: o' :: r => StepOk P Q a0 W ds Vs i o ∧ StepsOk P Q a0 W ds Vs (i + 1) (o' :: r)
def StableAll : List (Value → World → Prop) → Prop
  | [] => True
  | V :: r => (∀ v w w', V v w → Below w.heap.size w w' → V v w') ∧ StableAll r
theorem stable_at {Vs : List (Value → World → Prop)} (h : StableAll Vs) : ∀ i v w w', predAt Vs i v w → Below w.heap.size w w' → predAt Vs i v w' := by
  induction Vs with
  | nil => intro i v w w' _ _; simp [predAt]
  | cons V r ih =>
    intro i v w w' hv hb
    cases i with
    | zero => exact h.1 v w w' hv hb
    | succ i => exact ih h.2 i v w w' hv hb
theorem steps_at {a0 : Act} {W : World} {ds : List Tmp} {Vs : List (Value → World → Prop)} : ∀ {l : List Oper} {k : Nat}, StepsOk P Q a0 W ds Vs k l →
    (∀ i o, l[i]? = some o → i + 1 < l.length → StepOk P Q a0 W ds Vs (k + i) o) ∧ (∀ o, l[l.length - 1]? = some o → LastOk P Q a0 W ds Vs o) := by
  intro l
  induction l with
  | nil => intro k _; exact ⟨fun i o h => by simp at h, fun o h => by simp at h⟩
  | cons o0 r ih =>
    intro k h
    cases r with
    | nil =>
      refine ⟨fun i o _ hl => by simp at hl, fun o ho => ?_⟩
      obtain rfl : o0 = o := by simpa using ho
      exact h
    | cons o1 r =>
      obtain ⟨h1, h2⟩ := ih h.2
      refine ⟨fun i o ho hl => ?_, fun o ho => h2 o (by simpa using ho)⟩
      cases i with
      | zero =>
        obtain rfl : o0 = o := by simpa using ho
        exact h.1
      | succ i =>
        have := h1 i o (by simpa using ho) (by simpa using hl)
        rwa [show k + 1 + i = k + (i + 1) by omega] at this

theorem steps_one {a0 : Act} {W : World} {ds : List Tmp} {Vs : List (Value → World → Prop)} {k : Nat} {o : Oper} (h : LastOk P Q a0 W ds Vs o) : StepsOk P Q a0 W ds Vs k [o] := h
theorem steps_cons {a0 : Act} {W : World} {ds : List Tmp} {Vs : List (Value → World → Prop)} {k : Nat} {o o' : Oper} {r : List Oper} (h : StepOk P Q a0 W ds Vs k o) (hr : StepsOk P Q a0 W ds Vs (k + 1) (o' :: r)) : StepsOk P Q a0 W ds Vs k (o :: o' :: r) := ⟨h, hr⟩
theorem region_list {id : Nat} {l : List Oper} {a0 : Act} {w0 : World} (hm : P.follows .mixedOrders = true) (ds : List Tmp) (vs0 : List Value) (Vs : List (Value → World → Prop))
    (hds : plainB .any l.toArray ds = true) (hvs0 : vs0.length = ds.length) (ha0 : fill a0 ds vs0 = a0) (hV : StableAll Vs) (h : StepsOk P Q a0 w0.drew ds Vs 0 l) : (Code.region id l.toArray true).wp P Q a0 w0 := by
  obtain ⟨h1, h2⟩ := steps_at h
  have hlen : l.length = ds.length + 1 := by
    unfold plainB at hds
    simp only [Bool.and_eq_true, beq_iff_eq] at hds
    simpa using hds.1.1.1
  refine region_any hm ds hds vs0 hvs0 ha0 (predAt Vs) (stable_at hV) ?_ ?_
  · intro i hi oi hoi vs hl w hb hd K hK
    have := h1 i oi (by simpa using hoi) (by omega)
    rw [Nat.zero_add] at this
    refine (this vs hl w hb (known_of fun j hj => ?_) K hK).out
    obtain ⟨e, he, rfl⟩ := List.mem_map.1 hj
    obtain ⟨he1, he2⟩ := List.mem_filter.1 he
    exact hd e (by simpa using he1) he2
  · intro o ho vs hl w hb hd K hK
    refine (h2 o ?_ vs hl w hb (known_of fun j hj => hd j (by have := (mem_seqFrom hj).2; omega)) K hK).out
    rw [hlen, Nat.add_sub_cancel]
    simpa using ho
end
theorem len1 {vs : List Value} (h : vs.length = 1) : ∃ v0, vs = [v0] := by
  match vs, h with
  | [v0], _ => exact ⟨v0, rfl⟩
theorem len2 {vs : List Value} (h : vs.length = 2) : ∃ v0 v1, vs = [v0, v1] := by
  match vs, h with
  | v :: r, h =>
    obtain ⟨v0, rfl⟩ := len1 (vs := r) (by simpa using h)
    exact ⟨v, v0, rfl⟩
theorem len3 {vs : List Value} (h : vs.length = 3) : ∃ v0 v1 v2, vs = [v0, v1, v2] := by
  match vs, h with
  | v :: r, h =>
    obtain ⟨v0, v1, rfl⟩ := len2 (vs := r) (by simpa using h)
    exact ⟨v, v0, v1, rfl⟩
theorem len4 {vs : List Value} (h : vs.length = 4) : ∃ v0 v1 v2 v3, vs = [v0, v1, v2, v3] := by
  match vs, h with
  | v :: r, h =>
    obtain ⟨v0, v1, v2, rfl⟩ := len3 (vs := r) (by simpa using h)
    exact ⟨v, v0, v1, v2, rfl⟩
theorem len5 {vs : List Value} (h : vs.length = 5) : ∃ v0 v1 v2 v3 v4, vs = [v0, v1, v2, v3, v4] := by
  match vs, h with
  | v :: r, h =>
    obtain ⟨v0, v1, v2, v3, rfl⟩ := len4 (vs := r) (by simpa using h)
    exact ⟨v, v0, v1, v2, v3, rfl⟩
theorem len6 {vs : List Value} (h : vs.length = 6) : ∃ v0 v1 v2 v3 v4 v5, vs = [v0, v1, v2, v3, v4, v5] := by
  match vs, h with
  | v :: r, h =>
    obtain ⟨v0, v1, v2, v3, v4, rfl⟩ := len5 (vs := r) (by simpa using h)
    exact ⟨v, v0, v1, v2, v3, v4, rfl⟩
theorem len7 {vs : List Value} (h : vs.length = 7) : ∃ v0 v1 v2 v3 v4 v5 v6, vs = [v0, v1, v2, v3, v4, v5, v6] := by
  match vs, h with
  | v :: r, h =>
    obtain ⟨v0, v1, v2, v3, v4, v5, rfl⟩ := len6 (vs := r) (by simpa using h)
    exact ⟨v, v0, v1, v2, v3, v4, v5, rfl⟩
theorem len8 {vs : List Value} (h : vs.length = 8) : ∃ v0 v1 v2 v3 v4 v5 v6 v7, vs = [v0, v1, v2, v3, v4, v5, v6, v7] := by
  match vs, h with
  | v :: r, h =>
    obtain ⟨v0, v1, v2, v3, v4, v5, v6, rfl⟩ := len7 (vs := r) (by simpa using h)
    exact ⟨v, v0, v1, v2, v3, v4, v5, v6, rfl⟩
theorem len9 {vs : List Value} (h : vs.length = 9) : ∃ v0 v1 v2 v3 v4 v5 v6 v7 v8, vs = [v0, v1, v2, v3, v4, v5, v6, v7, v8] := by
  match vs, h with
  | v :: r, h =>
    obtain ⟨v0, v1, v2, v3, v4, v5, v6, v7, rfl⟩ := len8 (vs := r) (by simpa using h)
    exact ⟨v, v0, v1, v2, v3, v4, v5, v6, v7, rfl⟩
theorem len10 {vs : List Value} (h : vs.length = 10) : ∃ v0 v1 v2 v3 v4 v5 v6 v7 v8 v9, vs = [v0, v1, v2, v3, v4, v5, v6, v7, v8, v9] := by
  match vs, h with
  | v :: r, h =>
    obtain ⟨v0, v1, v2, v3, v4, v5, v6, v7, v8, rfl⟩ := len9 (vs := r) (by simpa using h)
    exact ⟨v, v0, v1, v2, v3, v4, v5, v6, v7, v8, rfl⟩
theorem len11 {vs : List Value} (h : vs.length = 11) : ∃ v0 v1 v2 v3 v4 v5 v6 v7 v8 v9 v10, vs = [v0, v1, v2, v3, v4, v5, v6, v7, v8, v9, v10] := by
  match vs, h with
  | v :: r, h =>
    obtain ⟨v0, v1, v2, v3, v4, v5, v6, v7, v8, v9, rfl⟩ := len10 (vs := r) (by simpa using h)
    exact ⟨v, v0, v1, v2, v3, v4, v5, v6, v7, v8, v9, rfl⟩
theorem len12 {vs : List Value} (h : vs.length = 12) : ∃ v0 v1 v2 v3 v4 v5 v6 v7 v8 v9 v10 v11, vs = [v0, v1, v2, v3, v4, v5, v6, v7, v8, v9, v10, v11] := by
  match vs, h with
  | v :: r, h =>
    obtain ⟨v0, v1, v2, v3, v4, v5, v6, v7, v8, v9, v10, rfl⟩ := len11 (vs := r) (by simpa using h)
    exact ⟨v, v0, v1, v2, v3, v4, v5, v6, v7, v8, v9, v10, rfl⟩
theorem len13 {vs : List Value} (h : vs.length = 13) : ∃ v0 v1 v2 v3 v4 v5 v6 v7 v8 v9 v10 v11 v12, vs = [v0, v1, v2, v3, v4, v5, v6, v7, v8, v9, v10, v11, v12] := by
  match vs, h with
  | v :: r, h =>
    obtain ⟨v0, v1, v2, v3, v4, v5, v6, v7, v8, v9, v10, v11, rfl⟩ := len12 (vs := r) (by simpa using h)
    exact ⟨v, v0, v1, v2, v3, v4, v5, v6, v7, v8, v9, v10, v11, rfl⟩
theorem len14 {vs : List Value} (h : vs.length = 14) : ∃ v0 v1 v2 v3 v4 v5 v6 v7 v8 v9 v10 v11 v12 v13, vs = [v0, v1, v2, v3, v4, v5, v6, v7, v8, v9, v10, v11, v12, v13] := by
  match vs, h with
  | v :: r, h =>
    obtain ⟨v0, v1, v2, v3, v4, v5, v6, v7, v8, v9, v10, v11, v12, rfl⟩ := len13 (vs := r) (by simpa using h)
    exact ⟨v, v0, v1, v2, v3, v4, v5, v6, v7, v8, v9, v10, v11, v12, rfl⟩
theorem len15 {vs : List Value} (h : vs.length = 15) : ∃ v0 v1 v2 v3 v4 v5 v6 v7 v8 v9 v10 v11 v12 v13 v14, vs = [v0, v1, v2, v3, v4, v5, v6, v7, v8, v9, v10, v11, v12, v13, v14] := by
  match vs, h with
  | v :: r, h =>
    obtain ⟨v0, v1, v2, v3, v4, v5, v6, v7, v8, v9, v10, v11, v12, v13, rfl⟩ := len14 (vs := r) (by simpa using h)
    exact ⟨v, v0, v1, v2, v3, v4, v5, v6, v7, v8, v9, v10, v11, v12, v13, rfl⟩
theorem len16 {vs : List Value} (h : vs.length = 16) : ∃ v0 v1 v2 v3 v4 v5 v6 v7 v8 v9 v10 v11 v12 v13 v14 v15, vs = [v0, v1, v2, v3, v4, v5, v6, v7, v8, v9, v10, v11, v12, v13, v14, v15] := by
  match vs, h with
  | v :: r, h =>
    obtain ⟨v0, v1, v2, v3, v4, v5, v6, v7, v8, v9, v10, v11, v12, v13, v14, rfl⟩ := len15 (vs := r) (by simpa using h)
    exact ⟨v, v0, v1, v2, v3, v4, v5, v6, v7, v8, v9, v10, v11, v12, v13, v14, rfl⟩
theorem len17 {vs : List Value} (h : vs.length = 17) : ∃ v0 v1 v2 v3 v4 v5 v6 v7 v8 v9 v10 v11 v12 v13 v14 v15 v16, vs = [v0, v1, v2, v3, v4, v5, v6, v7, v8, v9, v10, v11, v12, v13, v14, v15, v16] := by
  match vs, h with
  | v :: r, h =>
    obtain ⟨v0, v1, v2, v3, v4, v5, v6, v7, v8, v9, v10, v11, v12, v13, v14, v15, rfl⟩ := len16 (vs := r) (by simpa using h)
    exact ⟨v, v0, v1, v2, v3, v4, v5, v6, v7, v8, v9, v10, v11, v12, v13, v14, v15, rfl⟩
theorem len18 {vs : List Value} (h : vs.length = 18) : ∃ v0 v1 v2 v3 v4 v5 v6 v7 v8 v9 v10 v11 v12 v13 v14 v15 v16 v17, vs = [v0, v1, v2, v3, v4, v5, v6, v7, v8, v9, v10, v11, v12, v13, v14, v15, v16, v17] := by
  match vs, h with
  | v :: r, h =>
    obtain ⟨v0, v1, v2, v3, v4, v5, v6, v7, v8, v9, v10, v11, v12, v13, v14, v15, v16, rfl⟩ := len17 (vs := r) (by simpa using h)
    exact ⟨v, v0, v1, v2, v3, v4, v5, v6, v7, v8, v9, v10, v11, v12, v13, v14, v15, v16, rfl⟩
theorem len19 {vs : List Value} (h : vs.length = 19) : ∃ v0 v1 v2 v3 v4 v5 v6 v7 v8 v9 v10 v11 v12 v13 v14 v15 v16 v17 v18, vs = [v0, v1, v2, v3, v4, v5, v6, v7, v8, v9, v10, v11, v12, v13, v14, v15, v16, v17, v18] := by
  match vs, h with
  | v :: r, h =>
    obtain ⟨v0, v1, v2, v3, v4, v5, v6, v7, v8, v9, v10, v11, v12, v13, v14, v15, v16, v17, rfl⟩ := len18 (vs := r) (by simpa using h)
    exact ⟨v, v0, v1, v2, v3, v4, v5, v6, v7, v8, v9, v10, v11, v12, v13, v14, v15, v16, v17, rfl⟩
theorem len20 {vs : List Value} (h : vs.length = 20) : ∃ v0 v1 v2 v3 v4 v5 v6 v7 v8 v9 v10 v11 v12 v13 v14 v15 v16 v17 v18 v19, vs = [v0, v1, v2, v3, v4, v5, v6, v7, v8, v9, v10, v11, v12, v13, v14, v15, v16, v17, v18, v19] := by
  match vs, h with
  | v :: r, h =>
    obtain ⟨v0, v1, v2, v3, v4, v5, v6, v7, v8, v9, v10, v11, v12, v13, v14, v15, v16, v17, v18, rfl⟩ := len19 (vs := r) (by simpa using h)
    exact ⟨v, v0, v1, v2, v3, v4, v5, v6, v7, v8, v9, v10, v11, v12, v13, v14, v15, v16, v17, v18, rfl⟩
theorem len21 {vs : List Value} (h : vs.length = 21) : ∃ v0 v1 v2 v3 v4 v5 v6 v7 v8 v9 v10 v11 v12 v13 v14 v15 v16 v17 v18 v19 v20, vs = [v0, v1, v2, v3, v4, v5, v6, v7, v8, v9, v10, v11, v12, v13, v14, v15, v16, v17, v18, v19, v20] := by
  match vs, h with
  | v :: r, h =>
    obtain ⟨v0, v1, v2, v3, v4, v5, v6, v7, v8, v9, v10, v11, v12, v13, v14, v15, v16, v17, v18, v19, rfl⟩ := len20 (vs := r) (by simpa using h)
    exact ⟨v, v0, v1, v2, v3, v4, v5, v6, v7, v8, v9, v10, v11, v12, v13, v14, v15, v16, v17, v18, v19, rfl⟩
theorem len22 {vs : List Value} (h : vs.length = 22) : ∃ v0 v1 v2 v3 v4 v5 v6 v7 v8 v9 v10 v11 v12 v13 v14 v15 v16 v17 v18 v19 v20 v21, vs = [v0, v1, v2, v3, v4, v5, v6, v7, v8, v9, v10, v11, v12, v13, v14, v15, v16, v17, v18, v19, v20, v21] := by
  match vs, h with
  | v :: r, h =>
    obtain ⟨v0, v1, v2, v3, v4, v5, v6, v7, v8, v9, v10, v11, v12, v13, v14, v15, v16, v17, v18, v19, v20, rfl⟩ := len21 (vs := r) (by simpa using h)
    exact ⟨v, v0, v1, v2, v3, v4, v5, v6, v7, v8, v9, v10, v11, v12, v13, v14, v15, v16, v17, v18, v19, v20, rfl⟩
theorem len23 {vs : List Value} (h : vs.length = 23) : ∃ v0 v1 v2 v3 v4 v5 v6 v7 v8 v9 v10 v11 v12 v13 v14 v15 v16 v17 v18 v19 v20 v21 v22, vs = [v0, v1, v2, v3, v4, v5, v6, v7, v8, v9, v10, v11, v12, v13, v14, v15, v16, v17, v18, v19, v20, v21, v22] := by
  match vs, h with
  | v :: r, h =>
    obtain ⟨v0, v1, v2, v3, v4, v5, v6, v7, v8, v9, v10, v11, v12, v13, v14, v15, v16, v17, v18, v19, v20, v21, rfl⟩ := len22 (vs := r) (by simpa using h)
    exact ⟨v, v0, v1, v2, v3, v4, v5, v6, v7, v8, v9, v10, v11, v12, v13, v14, v15, v16, v17, v18, v19, v20, v21, rfl⟩
theorem len24 {vs : List Value} (h : vs.length = 24) : ∃ v0 v1 v2 v3 v4 v5 v6 v7 v8 v9 v10 v11 v12 v13 v14 v15 v16 v17 v18 v19 v20 v21 v22 v23, vs = [v0, v1, v2, v3, v4, v5, v6, v7, v8, v9, v10, v11, v12, v13, v14, v15, v16, v17, v18, v19, v20, v21, v22, v23] := by
  match vs, h with
  | v :: r, h =>
    obtain ⟨v0, v1, v2, v3, v4, v5, v6, v7, v8, v9, v10, v11, v12, v13, v14, v15, v16, v17, v18, v19, v20, v21, v22, rfl⟩ := len23 (vs := r) (by simpa using h)
    exact ⟨v, v0, v1, v2, v3, v4, v5, v6, v7, v8, v9, v10, v11, v12, v13, v14, v15, v16, v17, v18, v19, v20, v21, v22, rfl⟩
theorem len25 {vs : List Value} (h : vs.length = 25) : ∃ v0 v1 v2 v3 v4 v5 v6 v7 v8 v9 v10 v11 v12 v13 v14 v15 v16 v17 v18 v19 v20 v21 v22 v23 v24, vs = [v0, v1, v2, v3, v4, v5, v6, v7, v8, v9, v10, v11, v12, v13, v14, v15, v16, v17, v18, v19, v20, v21, v22, v23, v24] := by
  match vs, h with
  | v :: r, h =>
    obtain ⟨v0, v1, v2, v3, v4, v5, v6, v7, v8, v9, v10, v11, v12, v13, v14, v15, v16, v17, v18, v19, v20, v21, v22, v23, rfl⟩ := len24 (vs := r) (by simpa using h)
    exact ⟨v, v0, v1, v2, v3, v4, v5, v6, v7, v8, v9, v10, v11, v12, v13, v14, v15, v16, v17, v18, v19, v20, v21, v22, v23, rfl⟩
theorem len26 {vs : List Value} (h : vs.length = 26) : ∃ v0 v1 v2 v3 v4 v5 v6 v7 v8 v9 v10 v11 v12 v13 v14 v15 v16 v17 v18 v19 v20 v21 v22 v23 v24 v25, vs = [v0, v1, v2, v3, v4, v5, v6, v7, v8, v9, v10, v11, v12, v13, v14, v15, v16, v17, v18, v19, v20, v21, v22, v23, v24, v25] := by
  match vs, h with
  | v :: r, h =>
    obtain ⟨v0, v1, v2, v3, v4, v5, v6, v7, v8, v9, v10, v11, v12, v13, v14, v15, v16, v17, v18, v19, v20, v21, v22, v23, v24, rfl⟩ := len25 (vs := r) (by simpa using h)
    exact ⟨v, v0, v1, v2, v3, v4, v5, v6, v7, v8, v9, v10, v11, v12, v13, v14, v15, v16, v17, v18, v19, v20, v21, v22, v23, v24, rfl⟩
end Go.Proofs.Ytphfmcdkldcmiaa.Reg
/- The program's product of two complex numbers. -/
namespace Go.Proofs.Ytphfmcdkldcmiaa.Fl
open Go Go.RowKit Go.Proofs.Ytphfmcdkldcmiaa.Reg
set_option linter.unusedVariables false
set_option linter.unusedSimpArgs false

set_option maxHeartbeats 8000000 in
theorem times_impl (a b c d : Nat) (w : World) : Calls Try.prog 50 #[.agg #[.float .f64 a, .float .f64 b], .agg #[.float .f64 c, .float .f64 d]] w (PairOf .f64 (fP .sub .f64 (fP .mul .f64 a c) (fP .mul .f64 b d)) (fP .add .f64 (fP .mul .f64 a d) (fP .mul .f64 b c)) w) := by
  go_enter Try.func50, Try.ntmps50
  go_upto_region 1 with fail
  have hb0 := below_al (below_al (below_al (Below.refl w.heap.size w) (.cells #[.float .f64 a, .float .f64 b] 26)) (.cells #[.float .f64 c, .float .f64 d] 26)) (.cells #[.float .f64 0, .float .f64 0] 26)
  have c0 : (((w.alloc (.cells #[.float .f64 a, .float .f64 b] 26)).alloc (.cells #[.float .f64 c, .float .f64 d] 26)).alloc (.cells #[.float .f64 0, .float .f64 0] 26)).cell? ⟨w.heap.size, 0, none⟩ = some (.float .f64 a) := by go_simp
  have c1 : (((w.alloc (.cells #[.float .f64 a, .float .f64 b] 26)).alloc (.cells #[.float .f64 c, .float .f64 d] 26)).alloc (.cells #[.float .f64 0, .float .f64 0] 26)).cell? ⟨w.heap.size, 1, none⟩ = some (.float .f64 b) := by go_simp
  have c2 : (((w.alloc (.cells #[.float .f64 a, .float .f64 b] 26)).alloc (.cells #[.float .f64 c, .float .f64 d] 26)).alloc (.cells #[.float .f64 0, .float .f64 0] 26)).cell? ⟨w.heap.size + 1, 0, none⟩ = some (.float .f64 c) := by go_simp
  have c3 : (((w.alloc (.cells #[.float .f64 a, .float .f64 b] 26)).alloc (.cells #[.float .f64 c, .float .f64 d] 26)).alloc (.cells #[.float .f64 0, .float .f64 0] 26)).cell? ⟨w.heap.size + 1, 1, none⟩ = some (.float .f64 d) := by go_simp
  have hB : (((w.alloc (.cells #[.float .f64 a, .float .f64 b] 26)).alloc (.cells #[.float .f64 c, .float .f64 d] 26)).alloc (.cells #[.float .f64 0, .float .f64 0] 26)).heap[w.heap.size + 1 + 1]? = some (.cells #[.float .f64 0, .float .f64 0] 26 (0, 0)) := heap_alloc_at _ _ _ (by simp)
  have l1 : w.heap.size + 1 + 1 < (((w.alloc (.cells #[.float .f64 a, .float .f64 b] 26)).alloc (.cells #[.float .f64 c, .float .f64 d] 26)).alloc (.cells #[.float .f64 0, .float .f64 0] 26)).heap.size := by simp
  generalize ((w.alloc (.cells #[.float .f64 a, .float .f64 b] 26)).alloc (.cells #[.float .f64 c, .float .f64 d] 26)).alloc (.cells #[.float .f64 0, .float .f64 0] 26) = W0 at hb0 c0 c1 c2 c3 hB l1 ⊢
  refine region_list (by kernel_rfl) [5, 6, 7, 8, 9, 10, 11, 12, 13, 14, 15, 16, 17, 18, 19, 20, 21, 22, 23, 24, 25, 26, 27] [undef, undef, undef, undef, undef, undef, undef, undef, undef, undef, undef, undef, undef, undef, undef, undef, undef, undef, undef, undef, undef, undef, undef] [fun v _ => v = .pointer (some ⟨w.heap.size, 0, none⟩),
      fun v _ => v = .float .f64 a,
      fun v _ => v = .pointer (some ⟨w.heap.size + 1, 0, none⟩),
      fun v _ => v = .float .f64 c,
      fun v _ => ∃ m : Nat, v = .float .f64 m ∧ Same .f64 m (fP .mul .f64 a c),
      fun v _ => v = .pointer (some ⟨w.heap.size, 1, none⟩),
      fun v _ => v = .float .f64 b,
      fun v _ => v = .pointer (some ⟨w.heap.size + 1, 1, none⟩),
      fun v _ => v = .float .f64 d,
      fun v _ => ∃ m : Nat, v = .float .f64 m ∧ Same .f64 m (fP .mul .f64 b d),
      fun v _ => ∃ m : Nat, v = .float .f64 m ∧ Same .f64 m (fP .sub .f64 (fP .mul .f64 a c) (fP .mul .f64 b d)),
      fun v _ => v = .pointer (some ⟨w.heap.size, 0, none⟩),
      fun v _ => v = .float .f64 a,
      fun v _ => v = .pointer (some ⟨w.heap.size + 1, 1, none⟩),
      fun v _ => v = .float .f64 d,
      fun v _ => ∃ m : Nat, v = .float .f64 m ∧ Same .f64 m (fP .mul .f64 a d),
      fun v _ => v = .pointer (some ⟨w.heap.size, 1, none⟩),
      fun v _ => v = .float .f64 b,
      fun v _ => v = .pointer (some ⟨w.heap.size + 1, 0, none⟩),
      fun v _ => v = .float .f64 c,
      fun v _ => ∃ m : Nat, v = .float .f64 m ∧ Same .f64 m (fP .mul .f64 b c),
      fun v _ => ∃ m : Nat, v = .float .f64 m ∧ Same .f64 m (fP .add .f64 (fP .mul .f64 a d) (fP .mul .f64 b c)),
      fun v _ => ∃ r i : Nat, v = .agg #[.float .f64 r, .float .f64 i] ∧ Same .f64 r (fP .sub .f64 (fP .mul .f64 a c) (fP .mul .f64 b d)) ∧ Same .f64 i (fP .add .f64 (fP .mul .f64 a d) (fP .mul .f64 b c))] (by kernel_rfl) rfl (by kernel_rfl)
    ⟨fun _ _ _ h _ => h, fun _ _ _ h _ => h, fun _ _ _ h _ => h, fun _ _ _ h _ => h, fun _ _ _ h _ => h, fun _ _ _ h _ => h, fun _ _ _ h _ => h, fun _ _ _ h _ => h, fun _ _ _ h _ => h, fun _ _ _ h _ => h, fun _ _ _ h _ => h, fun _ _ _ h _ => h, fun _ _ _ h _ => h, fun _ _ _ h _ => h, fun _ _ _ h _ => h, fun _ _ _ h _ => h, fun _ _ _ h _ => h, fun _ _ _ h _ => h, fun _ _ _ h _ => h, fun _ _ _ h _ => h, fun _ _ _ h _ => h, fun _ _ _ h _ => h, fun _ _ _ h _ => h, trivial⟩ (steps_cons ?_ (steps_cons ?_ (steps_cons ?_ (steps_cons ?_ (steps_cons ?_ (steps_cons ?_ (steps_cons ?_ (steps_cons ?_ (steps_cons ?_ (steps_cons ?_ (steps_cons ?_ (steps_cons ?_ (steps_cons ?_ (steps_cons ?_ (steps_cons ?_ (steps_cons ?_ (steps_cons ?_ (steps_cons ?_ (steps_cons ?_ (steps_cons ?_ (steps_cons ?_ (steps_cons ?_ (steps_cons ?_ (steps_one ?_))))))))))))))))))))))))
  · intro vs hl
    obtain ⟨v0, v1, v2, v3, v4, v5, v6, v7, v8, v9, v10, v11, v12, v13, v14, v15, v16, v17, v18, v19, v20, v21, v22, rfl⟩ := len23 hl
    clear hl
    intro w1 hb hd K hK
    simp only [fill, Act.put, List.zip_cons_cons, List.zip_nil_right, List.zip_nil_left, List.foldl_cons, List.foldl_nil, List.setIfInBounds_toArray, List.set_cons_zero, List.set_cons_succ] at hK ⊢
    refine ⟨?_⟩
    go_simp
    exact hK _ _ (Below.refl _ _) rfl
  · intro vs hl
    obtain ⟨v0, v1, v2, v3, v4, v5, v6, v7, v8, v9, v10, v11, v12, v13, v14, v15, v16, v17, v18, v19, v20, v21, v22, rfl⟩ := len23 hl
    clear hl
    intro w1 hb hd K hK
    obtain ⟨h0, _⟩ := hd
    obtain rfl : v0 = .pointer (some ⟨w.heap.size, 0, none⟩) := h0
    have e : w1.cell? ⟨w.heap.size, 0, none⟩ = some (.float .f64 a) := (hb.cell (p := ⟨w.heap.size, 0, none⟩) (by simp; omega)).trans c0
    simp only [fill, Act.put, List.zip_cons_cons, List.zip_nil_right, List.zip_nil_left, List.foldl_cons, List.foldl_nil, List.setIfInBounds_toArray, List.set_cons_zero, List.set_cons_succ] at hK ⊢
    refine ⟨?_⟩
    go_simp
    exact hK _ _ (Below.refl _ _) rfl
  · intro vs hl
    obtain ⟨v0, v1, v2, v3, v4, v5, v6, v7, v8, v9, v10, v11, v12, v13, v14, v15, v16, v17, v18, v19, v20, v21, v22, rfl⟩ := len23 hl
    clear hl
    intro w1 hb hd K hK
    simp only [fill, Act.put, List.zip_cons_cons, List.zip_nil_right, List.zip_nil_left, List.foldl_cons, List.foldl_nil, List.setIfInBounds_toArray, List.set_cons_zero, List.set_cons_succ] at hK ⊢
    refine ⟨?_⟩
    go_simp
    exact hK _ _ (Below.refl _ _) rfl
  · intro vs hl
    obtain ⟨v0, v1, v2, v3, v4, v5, v6, v7, v8, v9, v10, v11, v12, v13, v14, v15, v16, v17, v18, v19, v20, v21, v22, rfl⟩ := len23 hl
    clear hl
    intro w1 hb hd K hK
    obtain ⟨h2, _⟩ := hd
    obtain rfl : v2 = .pointer (some ⟨w.heap.size + 1, 0, none⟩) := h2
    have e : w1.cell? ⟨w.heap.size + 1, 0, none⟩ = some (.float .f64 c) := (hb.cell (p := ⟨w.heap.size + 1, 0, none⟩) (by simp; omega)).trans c2
    simp only [fill, Act.put, List.zip_cons_cons, List.zip_nil_right, List.zip_nil_left, List.foldl_cons, List.foldl_nil, List.setIfInBounds_toArray, List.set_cons_zero, List.set_cons_succ] at hK ⊢
    refine ⟨?_⟩
    go_simp
    exact hK _ _ (Below.refl _ _) rfl
  · intro vs hl
    obtain ⟨v0, v1, v2, v3, v4, v5, v6, v7, v8, v9, v10, v11, v12, v13, v14, v15, v16, v17, v18, v19, v20, v21, v22, rfl⟩ := len23 hl
    clear hl
    intro w1 hb hd K hK
    obtain ⟨h1, h3, _⟩ := hd
    obtain rfl : v1 = .float .f64 a := h1
    obtain rfl : v3 = .float .f64 c := h3
    simp only [fill, Act.put, List.zip_cons_cons, List.zip_nil_right, List.zip_nil_left, List.foldl_cons, List.foldl_nil, List.setIfInBounds_toArray, List.set_cons_zero, List.set_cons_succ] at hK ⊢
    refine ⟨?_⟩
    go_simp
    refine (by_any _ _ _).mono ?_
    rintro e w2 ⟨rfl, rfl⟩
    exact hK _ _ (below_drewN (Below.refl _ _) _) ⟨_, rfl, fAr_same (Same.refl _ _) (Same.refl _ _) _⟩
  · intro vs hl
    obtain ⟨v0, v1, v2, v3, v4, v5, v6, v7, v8, v9, v10, v11, v12, v13, v14, v15, v16, v17, v18, v19, v20, v21, v22, rfl⟩ := len23 hl
    clear hl
    intro w1 hb hd K hK
    simp only [fill, Act.put, List.zip_cons_cons, List.zip_nil_right, List.zip_nil_left, List.foldl_cons, List.foldl_nil, List.setIfInBounds_toArray, List.set_cons_zero, List.set_cons_succ] at hK ⊢
    refine ⟨?_⟩
    go_simp
    exact hK _ _ (Below.refl _ _) rfl
  · intro vs hl
    obtain ⟨v0, v1, v2, v3, v4, v5, v6, v7, v8, v9, v10, v11, v12, v13, v14, v15, v16, v17, v18, v19, v20, v21, v22, rfl⟩ := len23 hl
    clear hl
    intro w1 hb hd K hK
    obtain ⟨h5, _⟩ := hd
    obtain rfl : v5 = .pointer (some ⟨w.heap.size, 1, none⟩) := h5
    have e : w1.cell? ⟨w.heap.size, 1, none⟩ = some (.float .f64 b) := (hb.cell (p := ⟨w.heap.size, 1, none⟩) (by simp; omega)).trans c1
    simp only [fill, Act.put, List.zip_cons_cons, List.zip_nil_right, List.zip_nil_left, List.foldl_cons, List.foldl_nil, List.setIfInBounds_toArray, List.set_cons_zero, List.set_cons_succ] at hK ⊢
    refine ⟨?_⟩
    go_simp
    exact hK _ _ (Below.refl _ _) rfl
  · intro vs hl
    obtain ⟨v0, v1, v2, v3, v4, v5, v6, v7, v8, v9, v10, v11, v12, v13, v14, v15, v16, v17, v18, v19, v20, v21, v22, rfl⟩ := len23 hl
    clear hl
    intro w1 hb hd K hK
    simp only [fill, Act.put, List.zip_cons_cons, List.zip_nil_right, List.zip_nil_left, List.foldl_cons, List.foldl_nil, List.setIfInBounds_toArray, List.set_cons_zero, List.set_cons_succ] at hK ⊢
    refine ⟨?_⟩
    go_simp
    exact hK _ _ (Below.refl _ _) rfl
  · intro vs hl
    obtain ⟨v0, v1, v2, v3, v4, v5, v6, v7, v8, v9, v10, v11, v12, v13, v14, v15, v16, v17, v18, v19, v20, v21, v22, rfl⟩ := len23 hl
    clear hl
    intro w1 hb hd K hK
    obtain ⟨h7, _⟩ := hd
    obtain rfl : v7 = .pointer (some ⟨w.heap.size + 1, 1, none⟩) := h7
    have e : w1.cell? ⟨w.heap.size + 1, 1, none⟩ = some (.float .f64 d) := (hb.cell (p := ⟨w.heap.size + 1, 1, none⟩) (by simp; omega)).trans c3
    simp only [fill, Act.put, List.zip_cons_cons, List.zip_nil_right, List.zip_nil_left, List.foldl_cons, List.foldl_nil, List.setIfInBounds_toArray, List.set_cons_zero, List.set_cons_succ] at hK ⊢
    refine ⟨?_⟩
    go_simp
    exact hK _ _ (Below.refl _ _) rfl
  · intro vs hl
    obtain ⟨v0, v1, v2, v3, v4, v5, v6, v7, v8, v9, v10, v11, v12, v13, v14, v15, v16, v17, v18, v19, v20, v21, v22, rfl⟩ := len23 hl
    clear hl
    intro w1 hb hd K hK
    obtain ⟨h6, h8, _⟩ := hd
    obtain rfl : v6 = .float .f64 b := h6
    obtain rfl : v8 = .float .f64 d := h8
    simp only [fill, Act.put, List.zip_cons_cons, List.zip_nil_right, List.zip_nil_left, List.foldl_cons, List.foldl_nil, List.setIfInBounds_toArray, List.set_cons_zero, List.set_cons_succ] at hK ⊢
    refine ⟨?_⟩
    go_simp
    refine (by_any _ _ _).mono ?_
    rintro e w2 ⟨rfl, rfl⟩
    exact hK _ _ (below_drewN (Below.refl _ _) _) ⟨_, rfl, fAr_same (Same.refl _ _) (Same.refl _ _) _⟩
  · intro vs hl
    obtain ⟨v0, v1, v2, v3, v4, v5, v6, v7, v8, v9, v10, v11, v12, v13, v14, v15, v16, v17, v18, v19, v20, v21, v22, rfl⟩ := len23 hl
    clear hl
    intro w1 hb hd K hK
    obtain ⟨h4, h9, _⟩ := hd
    obtain ⟨m4, rfl, hm4⟩ := h4
    obtain ⟨m9, rfl, hm9⟩ := h9
    simp only [fill, Act.put, List.zip_cons_cons, List.zip_nil_right, List.zip_nil_left, List.foldl_cons, List.foldl_nil, List.setIfInBounds_toArray, List.set_cons_zero, List.set_cons_succ] at hK ⊢
    refine ⟨?_⟩
    go_simp
    exact hK _ _ (below_drewN (Below.refl _ _) _) ⟨_, rfl, fAr_same hm4 hm9 _⟩
  · intro vs hl
    obtain ⟨v0, v1, v2, v3, v4, v5, v6, v7, v8, v9, v10, v11, v12, v13, v14, v15, v16, v17, v18, v19, v20, v21, v22, rfl⟩ := len23 hl
    clear hl
    intro w1 hb hd K hK
    simp only [fill, Act.put, List.zip_cons_cons, List.zip_nil_right, List.zip_nil_left, List.foldl_cons, List.foldl_nil, List.setIfInBounds_toArray, List.set_cons_zero, List.set_cons_succ] at hK ⊢
    refine ⟨?_⟩
    go_simp
    exact hK _ _ (Below.refl _ _) rfl
  · intro vs hl
    obtain ⟨v0, v1, v2, v3, v4, v5, v6, v7, v8, v9, v10, v11, v12, v13, v14, v15, v16, v17, v18, v19, v20, v21, v22, rfl⟩ := len23 hl
    clear hl
    intro w1 hb hd K hK
    obtain ⟨h11, _⟩ := hd
    obtain rfl : v11 = .pointer (some ⟨w.heap.size, 0, none⟩) := h11
    have e : w1.cell? ⟨w.heap.size, 0, none⟩ = some (.float .f64 a) := (hb.cell (p := ⟨w.heap.size, 0, none⟩) (by simp; omega)).trans c0
    simp only [fill, Act.put, List.zip_cons_cons, List.zip_nil_right, List.zip_nil_left, List.foldl_cons, List.foldl_nil, List.setIfInBounds_toArray, List.set_cons_zero, List.set_cons_succ] at hK ⊢
    refine ⟨?_⟩
    go_simp
    exact hK _ _ (Below.refl _ _) rfl
  · intro vs hl
    obtain ⟨v0, v1, v2, v3, v4, v5, v6, v7, v8, v9, v10, v11, v12, v13, v14, v15, v16, v17, v18, v19, v20, v21, v22, rfl⟩ := len23 hl
    clear hl
    intro w1 hb hd K hK
    simp only [fill, Act.put, List.zip_cons_cons, List.zip_nil_right, List.zip_nil_left, List.foldl_cons, List.foldl_nil, List.setIfInBounds_toArray, List.set_cons_zero, List.set_cons_succ] at hK ⊢
    refine ⟨?_⟩
    go_simp
    exact hK _ _ (Below.refl _ _) rfl
  · intro vs hl
    obtain ⟨v0, v1, v2, v3, v4, v5, v6, v7, v8, v9, v10, v11, v12, v13, v14, v15, v16, v17, v18, v19, v20, v21, v22, rfl⟩ := len23 hl
    clear hl
    intro w1 hb hd K hK
    obtain ⟨h13, _⟩ := hd
    obtain rfl : v13 = .pointer (some ⟨w.heap.size + 1, 1, none⟩) := h13
    have e : w1.cell? ⟨w.heap.size + 1, 1, none⟩ = some (.float .f64 d) := (hb.cell (p := ⟨w.heap.size + 1, 1, none⟩) (by simp; omega)).trans c3
    simp only [fill, Act.put, List.zip_cons_cons, List.zip_nil_right, List.zip_nil_left, List.foldl_cons, List.foldl_nil, List.setIfInBounds_toArray, List.set_cons_zero, List.set_cons_succ] at hK ⊢
    refine ⟨?_⟩
    go_simp
    exact hK _ _ (Below.refl _ _) rfl
  · intro vs hl
    obtain ⟨v0, v1, v2, v3, v4, v5, v6, v7, v8, v9, v10, v11, v12, v13, v14, v15, v16, v17, v18, v19, v20, v21, v22, rfl⟩ := len23 hl
    clear hl
    intro w1 hb hd K hK
    obtain ⟨h12, h14, _⟩ := hd
    obtain rfl : v12 = .float .f64 a := h12
    obtain rfl : v14 = .float .f64 d := h14
    simp only [fill, Act.put, List.zip_cons_cons, List.zip_nil_right, List.zip_nil_left, List.foldl_cons, List.foldl_nil, List.setIfInBounds_toArray, List.set_cons_zero, List.set_cons_succ] at hK ⊢
    refine ⟨?_⟩
    go_simp
    refine (by_any _ _ _).mono ?_
    rintro e w2 ⟨rfl, rfl⟩
    exact hK _ _ (below_drewN (Below.refl _ _) _) ⟨_, rfl, fAr_same (Same.refl _ _) (Same.refl _ _) _⟩
  · intro vs hl
    obtain ⟨v0, v1, v2, v3, v4, v5, v6, v7, v8, v9, v10, v11, v12, v13, v14, v15, v16, v17, v18, v19, v20, v21, v22, rfl⟩ := len23 hl
    clear hl
    intro w1 hb hd K hK
    simp only [fill, Act.put, List.zip_cons_cons, List.zip_nil_right, List.zip_nil_left, List.foldl_cons, List.foldl_nil, List.setIfInBounds_toArray, List.set_cons_zero, List.set_cons_succ] at hK ⊢
    refine ⟨?_⟩
    go_simp
    exact hK _ _ (Below.refl _ _) rfl
  · intro vs hl
    obtain ⟨v0, v1, v2, v3, v4, v5, v6, v7, v8, v9, v10, v11, v12, v13, v14, v15, v16, v17, v18, v19, v20, v21, v22, rfl⟩ := len23 hl
    clear hl
    intro w1 hb hd K hK
    obtain ⟨h16, _⟩ := hd
    obtain rfl : v16 = .pointer (some ⟨w.heap.size, 1, none⟩) := h16
    have e : w1.cell? ⟨w.heap.size, 1, none⟩ = some (.float .f64 b) := (hb.cell (p := ⟨w.heap.size, 1, none⟩) (by simp; omega)).trans c1
    simp only [fill, Act.put, List.zip_cons_cons, List.zip_nil_right, List.zip_nil_left, List.foldl_cons, List.foldl_nil, List.setIfInBounds_toArray, List.set_cons_zero, List.set_cons_succ] at hK ⊢
    refine ⟨?_⟩
    go_simp
    exact hK _ _ (Below.refl _ _) rfl
  · intro vs hl
    obtain ⟨v0, v1, v2, v3, v4, v5, v6, v7, v8, v9, v10, v11, v12, v13, v14, v15, v16, v17, v18, v19, v20, v21, v22, rfl⟩ := len23 hl
    clear hl
    intro w1 hb hd K hK
    simp only [fill, Act.put, List.zip_cons_cons, List.zip_nil_right, List.zip_nil_left, List.foldl_cons, List.foldl_nil, List.setIfInBounds_toArray, List.set_cons_zero, List.set_cons_succ] at hK ⊢
    refine ⟨?_⟩
    go_simp
    exact hK _ _ (Below.refl _ _) rfl
  · intro vs hl
    obtain ⟨v0, v1, v2, v3, v4, v5, v6, v7, v8, v9, v10, v11, v12, v13, v14, v15, v16, v17, v18, v19, v20, v21, v22, rfl⟩ := len23 hl
    clear hl
    intro w1 hb hd K hK
    obtain ⟨h18, _⟩ := hd
    obtain rfl : v18 = .pointer (some ⟨w.heap.size + 1, 0, none⟩) := h18
    have e : w1.cell? ⟨w.heap.size + 1, 0, none⟩ = some (.float .f64 c) := (hb.cell (p := ⟨w.heap.size + 1, 0, none⟩) (by simp; omega)).trans c2
    simp only [fill, Act.put, List.zip_cons_cons, List.zip_nil_right, List.zip_nil_left, List.foldl_cons, List.foldl_nil, List.setIfInBounds_toArray, List.set_cons_zero, List.set_cons_succ] at hK ⊢
    refine ⟨?_⟩
    go_simp
    exact hK _ _ (Below.refl _ _) rfl
  · intro vs hl
    obtain ⟨v0, v1, v2, v3, v4, v5, v6, v7, v8, v9, v10, v11, v12, v13, v14, v15, v16, v17, v18, v19, v20, v21, v22, rfl⟩ := len23 hl
    clear hl
    intro w1 hb hd K hK
    obtain ⟨h17, h19, _⟩ := hd
    obtain rfl : v17 = .float .f64 b := h17
    obtain rfl : v19 = .float .f64 c := h19
    simp only [fill, Act.put, List.zip_cons_cons, List.zip_nil_right, List.zip_nil_left, List.foldl_cons, List.foldl_nil, List.setIfInBounds_toArray, List.set_cons_zero, List.set_cons_succ] at hK ⊢
    refine ⟨?_⟩
    go_simp
    refine (by_any _ _ _).mono ?_
    rintro e w2 ⟨rfl, rfl⟩
    exact hK _ _ (below_drewN (Below.refl _ _) _) ⟨_, rfl, fAr_same (Same.refl _ _) (Same.refl _ _) _⟩
  · intro vs hl
    obtain ⟨v0, v1, v2, v3, v4, v5, v6, v7, v8, v9, v10, v11, v12, v13, v14, v15, v16, v17, v18, v19, v20, v21, v22, rfl⟩ := len23 hl
    clear hl
    intro w1 hb hd K hK
    obtain ⟨h15, h20, _⟩ := hd
    obtain ⟨m15, rfl, hm15⟩ := h15
    obtain ⟨m20, rfl, hm20⟩ := h20
    simp only [fill, Act.put, List.zip_cons_cons, List.zip_nil_right, List.zip_nil_left, List.foldl_cons, List.foldl_nil, List.setIfInBounds_toArray, List.set_cons_zero, List.set_cons_succ] at hK ⊢
    refine ⟨?_⟩
    go_simp
    exact hK _ _ (below_drewN (Below.refl _ _) _) ⟨_, rfl, fAr_same hm15 hm20 _⟩
  · intro vs hl
    obtain ⟨v0, v1, v2, v3, v4, v5, v6, v7, v8, v9, v10, v11, v12, v13, v14, v15, v16, v17, v18, v19, v20, v21, v22, rfl⟩ := len23 hl
    clear hl
    intro w1 hb hd K hK
    obtain ⟨h10, h21, _⟩ := hd
    obtain ⟨m10, rfl, hm10⟩ := h10
    obtain ⟨m21, rfl, hm21⟩ := h21
    simp only [fill, Act.put, List.zip_cons_cons, List.zip_nil_right, List.zip_nil_left, List.foldl_cons, List.foldl_nil, List.setIfInBounds_toArray, List.set_cons_zero, List.set_cons_succ] at hK ⊢
    refine ⟨?_⟩
    go_simp
    exact hK _ _ (Below.refl _ _) ⟨_, _, rfl, hm10, hm21⟩
  · unfold LastOk
    intro vs hl
    obtain ⟨v0, v1, v2, v3, v4, v5, v6, v7, v8, v9, v10, v11, v12, v13, v14, v15, v16, v17, v18, v19, v20, v21, v22, rfl⟩ := len23 hl
    clear hl
    intro w1 hb hd K hK
    obtain ⟨h0, h1, h2, h3, h4, h5, h6, h7, h8, h9, h10, h11, h12, h13, h14, h15, h16, h17, h18, h19, h20, h21, h22, _⟩ := hd
    obtain ⟨r, i, rfl, hr, hi⟩ := h22
    have hbl : Below w.heap.size w w1 := Below.trans (show Below w.heap.size w W0.drew from below_drewN hb0 1) (hb.mono hb0.size)
    have hB1 : w1.heap[w.heap.size + 1 + 1]? = some (.cells #[.float .f64 0, .float .f64 0] 26 (0, 0)) := (hb.block _ l1).trans hB
    have cg0 : w1.cell? ⟨w.heap.size + 1 + 1, 0, none⟩ = some (.float .f64 0) := blk_cell hB1 0
    have cg1 : w1.cell? ⟨w.heap.size + 1 + 1, 1, none⟩ = some (.float .f64 0) := blk_cell hB1 1
    have fg0 : w1.frozen? ⟨w.heap.size + 1 + 1, 0, none⟩ = false := blk_free hB1 0
    have fg1 : w1.frozen? ⟨w.heap.size + 1 + 1, 1, none⟩ = false := blk_free hB1 1
    have y0 : ((w1.setCell ⟨w.heap.size + 1 + 1, 0, none⟩ (.float .f64 r)).setCell ⟨w.heap.size + 1 + 1, 1, none⟩ (.float .f64 i)).cell? ⟨w.heap.size + 1 + 1, 0, none⟩ = some (.float .f64 r) := by
      rw [World.cell?_setCell_other _ _ _ _ (by simp), World.cell?_setCell_same _ _ _ cg0]
    have y1 : ((w1.setCell ⟨w.heap.size + 1 + 1, 0, none⟩ (.float .f64 r)).setCell ⟨w.heap.size + 1 + 1, 1, none⟩ (.float .f64 i)).cell? ⟨w.heap.size + 1 + 1, 1, none⟩ = some (.float .f64 i) := World.cell?_setCell_same _ _ _ (u := .float .f64 0) (by rw [World.cell?_setCell_other _ _ _ _ (by simp)]; exact cg1)
    have hb0' : Below w.heap.size w ((w1.setCell ⟨w.heap.size + 1 + 1, 0, none⟩ (.float .f64 r)).setCell ⟨w.heap.size + 1 + 1, 1, none⟩ (.float .f64 i)) := below_st (below_st hbl (by simp; omega) _) (by simp; omega) _
    simp only [fill, Act.put, List.zip_cons_cons, List.zip_nil_right, List.zip_nil_left, List.foldl_cons, List.foldl_nil, List.setIfInBounds_toArray, List.set_cons_zero, List.set_cons_succ] at hK ⊢
    refine ⟨?_⟩
    go_simp
    refine hK _ _ ?_
    clear hK
    generalize ((w1.setCell ⟨w.heap.size + 1 + 1, 0, none⟩ (.float .f64 r)).setCell ⟨w.heap.size + 1 + 1, 1, none⟩ (.float .f64 i)) = W1 at y0 y1 hb0' ⊢
    clear cg0 cg1 fg0 fg1 hB1 hbl hb c0 c1 c2 c3 l1 hb0
    go_wp2
    refine ret_val ?_ rfl
    simp [results, Try.results50, go_sem, y0, y1]
    exact ⟨_, _, rfl, hr, hi, hb0'⟩

end Go.Proofs.Ytphfmcdkldcmiaa.Fl
/- TideDay, by the program. -/
namespace Go.Proofs.Ytphfmcdkldcmiaa.Fl
open Go Go.RowKit Go.Proofs.YtphfmcdkldcmiaaW.PrintWords Go.Proofs.YtphfmcdkldcmiaaW.PrintLast Go.Proofs.YtphfmcdkldcmiaaW.PrintMore Go.Proofs.Ytphfmcdkldcmiaa.Rg Go.Proofs.Ytphfmcdkldcmiaa.Rs Go.Proofs.Ytphfmcdkldcmiaa.Mk
open Go.Proofs.Ytphfmcdkldcmiaa.Rt (Mv Near region_spw)
set_option linter.unusedVariables false
set_option linter.unusedSimpArgs false
theorem set_rf {R : Nat → Nat → Prop} {B : List Nat} {i n : Nat} {x : Nat} (hl : B.length = n) (hi : i < n) (h : ∀ j : Nat, j < i → R j (rf B j)) : (B.set i x).length = n ∧ (∀ j : Nat, j < i → R j (rf (B.set i x) j)) ∧ rf (B.set i x) i = x := by
  refine ⟨by simpa using hl, fun j hj => ?_, ?_⟩
  · unfold rf rdOf at *
    simp only [Int.toNat_natCast] at *
    rw [List.getD_eq_getElem?_getD, List.getElem?_set_ne (by omega), ← List.getD_eq_getElem?_getD]
    exact h j hj
  · unfold rf rdOf
    simp only [Int.toNat_natCast]
    rw [List.getD_eq_getElem?_getD, List.getElem?_set_self (by omega)]; rfl
set_option maxHeartbeats 8000000 in
set_option maxRecDepth 100000 in
theorem tide_impl (mean : Nat) (A0 : Option Addr) (c0 n m : Nat) (l : List H4) (h : Nat → H4) (w : World) (hr : kh.C w A0 n l) (hn : n ≤ 8) (hm : m ≤ 1500) (hf : ∀ j : Nat, j < n → SameH (eh l j) (h j)) :
    Calls Try.prog 57 #[.float .f64 mean, .slice A0 n c0, .int .i64 (m : Int)] w fun e w' => ∃ v, e = .returned (.tuple #[v, .bool true]) ∧ RowIs w w' m (fun i => vlS mean h i n) v ∧ Below w.heap.size w w' := by
  have HR := Aside0.mk hr
  have HL := Aside0.mk hn
  have HM := Aside0.mk hm
  have HF := Aside0.mk hf
  have hg0 : decide ((n : Int) > 8) = false := decide_eq_false (by omega)
  have hg1 : ¬ (8 < n) := by omega
  clear hr hf hn
  have infoW : (Try.prog.info? 26).map (fun i => (i.zero, i.size, i.bytes)) = some (some (.agg #[.float .f64 0, .float .f64 0]), 2, 16) := by kernel_rfl
  have ci := fun w => in_T (m : Int) (by omega) (by omega) w
  clear hm
  go_enter Try.func57, Try.ntmps57
  go_wp2_with fail
  refine (ci _).mono ?_
  rintro e w' ⟨rfl, hw⟩
  obtain rfl : w = w' := hw.symm
  clear ci
  go_wp2
  go_loopw [8, 25] (fun s8 s25 wr => ∃ (i : Nat) (B : List (Nat × Nat)), s25 = .int .i64 (i : Int) ∧ Aside0 (i ≤ n ∧ B.length = i ∧ ∀ j : Nat, j < i → SameW .f64 (el B j) (phS h j 0)) ∧ Aside0 ((kw .f64).R 26 wr w.heap.size (fun _ => True) s8 B) ∧ Aside0 (Below w.heap.size w wr)) (fun _ i _ => n - (RowKit.intOf i).toNat)
  case atStart => exact ⟨0, [], rfl, ⟨by omega, rfl, fun j hj => by omega⟩, ⟨Kd.R_nil _ _ _ _ _⟩, ⟨Below.refl _ _⟩⟩
  case round =>
    obtain ⟨i, B, rfl, HI, HO, HB⟩ := hrel
    by_cases hi : i < n
    · have hd : decide ((i : Int) < (n : Int)) = true := decide_eq_true (by omega)
      obtain ⟨ad, eA, hx, hx2, hx3, hx4⟩ := kh_read HR.out i hi
      subst eA
      replace hx := (HB.out.cell (World.block_lt_of_cell? w _ hx)).trans hx
      replace hx2 := (HB.out.cell (World.block_lt_of_cell? w _ hx2)).trans hx2
      replace hx3 := (HB.out.cell (World.block_lt_of_cell? w _ hx3)).trans hx3
      replace hx4 := (HB.out.cell (World.block_lt_of_cell? w _ hx4)).trans hx4
      have HS := Aside0.mk (push_el (R := fun j x => SameW .f64 x (phS h j 0)) HI.out.2.1 HI.out.2.2 (HF.out i hi).1)
      have e1 := wk hi (by have := HL.out; omega)
      have hob : Below w.heap.size w (wr.alloc (.cells #[.float .f64 (eh l i).1.1, .float .f64 (eh l i).1.2, .float .f64 (eh l i).2.1, .float .f64 (eh l i).2.2] 97)) := below_al HB.out _
      have HOB := Aside0.mk hob
      clear hob
      go_wp2_with (first | ((with_reducible refine gate_builtin (b := .append) (xs := #[.tmp 29, .tmp 32]) rfl ?_); at_builtin; refine Kd.R_append (kw .f64) (w0 := w) w.heap.size rfl (.tmp 29) (.tmp 32) 50 26 (.agg #[.float .f64 0, .float .f64 0]) 16 rfl Try.underlying50 infoW rfl (by decide) (by omega) u8 B (eh l i).1 [.float .f64 (eh l i).1.1, .float .f64 (eh l i).1.2] (fun _ => True) (fun _ => False) rfl (by first | rfl | (simp; rfl)) ⟨[_], [_], rfl, rfl, rfl⟩ (fun _ hk => hk.elim) (fun _ _ => trivial) (Kd.R_alloc HO.out _) HOB.out (below_size HOB.out) (by have := HI.out.2.1; have := HL.out; omega) ?_; intro vn wn hon hbn hg hat; have HON := Aside0.mk hon; have HBN := Aside0.mk hbn; clear hon hbn hg hat))
      exact ⟨⟨i + 1, _, congrArg (Value.int .i64) (by first | exact e1 | omega), ⟨by omega, HS.out⟩, HON, HBN⟩, by (try rw [e1]); simp [RowKit.intOf]; omega⟩
    · have hd : decide ((i : Int) < (n : Int)) = false := decide_eq_false (by omega)
      obtain rfl : n = i := by have := HI.out.1; omega
      have HP := Aside0.mk (show PhIs h n 0 0 B from ⟨HI.out.2.1, fun j hj => by rw [if_neg (by omega)]; exact HI.out.2.2 j hj⟩)
      obtain ⟨Ap, cp, eP⟩ := Kd.R_slice HO.out
      rw [HP.out.1] at eP
      subst eP
      clear HI
      go_wp2_with (first | ((with_reducible refine gate_dst (N := 36) rfl ?_); refine Kd.R_make kf (w0 := wr) wr.heap.size 23 rfl (N := 36) rfl 22 _ _ rfl (m : Int) rfl rfl Try.underlying22 (.float .f64 0) 8 (by kernel_rfl) rfl (by decide) (by omega) 0 (ok := fun _ => True) (okp := fun _ => True) rfl (fun _ hk => hk) trivial (by omega) (by have := HM.out; omega) (Below.refl _ _) (Nat.le_refl _) ?_; intro vm wm hom hbm hg_ hnew_; clear hg_ hnew_; obtain ⟨Ao, co, eO⟩ := Kd.R_slice hom; rw [List.length_replicate, Int.toNat_natCast] at eO; subst eO; replace HO := Aside0.mk (Kd.R_below HO.out hbm); have HQ := Aside0.mk (Kd.R_lower hom HB.out.size); replace HB := Aside0.mk (HB.out.trans (hbm.mono HB.out.size)); clear hom hbm))
      go_loopw [39] (fun s39 wr => ∃ (i : Nat) (P : List (Nat × Nat)) (Bo : List Nat), s39 = .int .i64 (i : Int) ∧ Aside0 (i ≤ m ∧ Bo.length = m ∧ ∀ j : Nat, j < i → Same .f64 (rf Bo j) (vlS mean h j n)) ∧ Aside0 (PhIs h n i 0 P) ∧ Aside0 ((kw .f64).R 26 wr w.heap.size (fun _ => True) (.slice Ap n cp) P) ∧ Aside0 (Kd.R kf 23 wr w.heap.size (fun _ => True) (.slice Ao m co) Bo) ∧ Aside0 (Below w.heap.size w wr)) (fun i _ => m - (RowKit.intOf i).toNat)
      case atStart => exact ⟨0, B, _, rfl, ⟨by omega, by simp, fun j hj => by omega⟩, HP, HO, HQ, HB⟩
      case round =>
        clear HO HB HQ HP
        obtain ⟨i, P, Bo, rfl, HI, HP, HO, HQ, HB⟩ := hrel
        by_cases hi : i < m
        · have hd : decide ((i : Int) < (m : Int)) = true := decide_eq_true (by omega)
          obtain ⟨wo, ewo⟩ : ∃ wo, wo = wr := ⟨_, rfl⟩
          subst ewo
          have hBl := HI.out.2.1
          obtain ⟨go, co', eo, gbo, glo, clo, hGo⟩ := Kd.R_form HQ.out (by omega)
          injection eo with eo1 eo2 eo3
          subst eo1 eo3
          have GO := Aside0.mk gbo
          clear hGo gbo glo hBl eo2
          obtain ⟨hz, hfz⟩ := R_cellN 0 HQ.out i hi
          have HPo := Aside0.mk (R_putN HQ.out i mean)
          have HOx := Aside0.mk (Kd.R_over HO.out HQ.out (by decide) (show wo.grownBy _ (Value.slice (some ⟨go, 0, none⟩) m co).ownBlock from HPo.out.2))
          have HSx := Aside0.mk (set_rf (R := fun j b => Same .f64 b (vlS mean h j n)) HI.out.2.1 hi HI.out.2.2 (x := mean))
          go_wp2
          go_loopw [48] (fun s48 wr => ∃ (k : Nat) (P : List (Nat × Nat)) (Bo : List Nat), s48 = .int .i64 (k : Int) ∧ Aside0 (k ≤ n) ∧ Aside0 (Bo.length = m ∧ (∀ j : Nat, j < i → Same .f64 (rf Bo j) (vlS mean h j n)) ∧ Same .f64 (rf Bo i) (vlS mean h i k)) ∧ Aside0 (PhIs h n i k P) ∧ Aside0 ((kw .f64).R 26 wr w.heap.size (fun _ => True) (.slice Ap n cp) P) ∧ Aside0 (Kd.R kf 23 wr w.heap.size (fun _ => True) (.slice (some ⟨go, 0, none⟩) m co) Bo) ∧ Aside0 (Below w.heap.size w wr)) (fun k _ => n - (RowKit.intOf k).toNat)
          case atStart => exact ⟨0, P, _, rfl, ⟨by omega⟩, ⟨HSx.out.1, HSx.out.2.1, by rw [HSx.out.2.2]; exact Same.refl _ _⟩, HP, HOx, ⟨HPo.out.1⟩, ⟨below_set HB.out GO.out⟩⟩
          case round =>
            clear HO HB HQ HP
            obtain ⟨k, P, Bo, rfl, HK, HX, HP, HO, HQ, HB⟩ := hrel
            by_cases hk : k < n
            · have hd2 : decide ((k : Int) < (n : Int)) = true := decide_eq_true (by omega)
              obtain ⟨ad, eA, hx, hx2, hx3, hx4⟩ := kh_read HR.out k hk
              subst eA
              replace hx := (HB.out.cell (World.block_lt_of_cell? w _ hx)).trans hx
              replace hx2 := (HB.out.cell (World.block_lt_of_cell? w _ hx2)).trans hx2
              replace hx3 := (HB.out.cell (World.block_lt_of_cell? w _ hx3)).trans hx3
              replace hx4 := (HB.out.cell (World.block_lt_of_cell? w _ hx4)).trans hx4
              have hPl := HP.out.1
              obtain ⟨g, co', eo, gb, gl, cl, hG⟩ := Kd.R_form HO.out (by omega)
              injection eo with eo1 eo2 eo3
              subst eo1 eo3
              have GB := Aside0.mk gb
              clear hG gb gl hPl eo2
              have hgo : go < wr.heap.size := Kd.R_lt HQ.out go (by simp [Value.ownBlock])
              go_upto_region 17 with fail
              have BX : Blk (wr.alloc (.cells #[.float .f64 (eh l k).1.1, .float .f64 (eh l k).1.2, .float .f64 (eh l k).2.1, .float .f64 (eh l k).2.2] 97)) wr.heap.size 97 #[.float .f64 (eh l k).1.1, .float .f64 (eh l k).1.2, .float .f64 (eh l k).2.1, .float .f64 (eh l k).2.2] := Blk.new wr _ _
              replace HO := Aside0.mk (Kd.R_alloc HO.out (.cells #[.float .f64 (eh l k).1.1, .float .f64 (eh l k).1.2, .float .f64 (eh l k).2.1, .float .f64 (eh l k).2.2] 97))
              replace HQ := Aside0.mk (Kd.R_alloc HQ.out (.cells #[.float .f64 (eh l k).1.1, .float .f64 (eh l k).1.2, .float .f64 (eh l k).2.1, .float .f64 (eh l k).2.2] 97))
              replace HB := Aside0.mk (below_al HB.out (.cells #[.float .f64 (eh l k).1.1, .float .f64 (eh l k).1.2, .float .f64 (eh l k).2.1, .float .f64 (eh l k).2.2] 97))
              clear hx hx2 hx3 hx4
              generalize wr.alloc (.cells #[.float .f64 (eh l k).1.1, .float .f64 (eh l k).1.2, .float .f64 (eh l k).2.1, .float .f64 (eh l k).2.2] 97) = wd at BX HO HQ HB ⊢
              generalize wr.heap.size = gx at BX hgo ⊢
              obtain ⟨hz, hfz⟩ := R_cellN 0 HQ.out i hi
              obtain ⟨hy, hy2, hf, hf2⟩ := kw_cells HO.out k hk
              clear hfz hf hf2
              replace BX := BX.drew
              refine Rt.region_spl (M := (fun _ => False)) (by kernel_rfl) [some 53, some 54, some 55, some 56, some 57, some 58, some 59, some 60, some 61, some 62, some 63] [u53, u54, u55, u56, u57, u58, u59, u60, u61, u62, u63] [] [Rt.Sp.val (fun v u_ => v = .slice (some ⟨go, 0, none⟩) m co), Rt.Sp.val (fun v u_ => v = .int .i64 (i : Int)), Rt.Sp.val (fun v u_ => v = .pointer (some ⟨go, i, none⟩)), Rt.Sp.val (fun v u_ => v = .float .f64 (rf Bo (i : Int))), Rt.Sp.val (fun v u_ => v = .slice (some ⟨g, 0, none⟩) n cp), Rt.Sp.val (fun v u_ => v = .int .i64 (k : Int)), Rt.Sp.val (fun v u_ => v = .pointer (some ⟨g, k * 2, none⟩)), Rt.Sp.val (fun v u_ => v = .pointer (some ⟨g, k * 2, none⟩)), Rt.Sp.val (fun v u_ => v = .float .f64 (el P k).1), Rt.Sp.val (fun v u_ => ∃ (m9 : Nat), v = .float .f64 m9 ∧ Same .f64 m9 (fP .add .f64 (vlS mean h i k) (phS h k i).1)), Rt.Sp.val (fun v u_ => v = .pointer (some ⟨go, i, none⟩))] (by kernel_rfl) rfl (by kernel_rfl) (fun _ h => h.elim) ⟨(fun _ _ _ h _ => h), (fun _ _ _ h _ => h), (fun _ _ _ h _ => h), (fun _ _ _ h _ => h), (fun _ _ _ h _ => h), (fun _ _ _ h _ => h), (fun _ _ _ h _ => h), (fun _ _ _ h _ => h), (fun _ _ _ h _ => h), (fun _ _ _ h _ => h), (fun _ _ _ h _ => h), trivial⟩ ⟨?_, ?_, ?_, ?_, ?_, ?_, ?_, ?_, ?_, ?_, ?_, ?_⟩
              · intro vs hl u1 hb hd
                obtain ⟨v0, v1, v2, v3, v4, v5, v6, v7, v8, v9, v10, rfl⟩ := len11 hl
                clear hl
                intro K hK
                simp only [fs, fo, fz, Act.put, s1, s2, s3] at hK ⊢
                refine ⟨?_⟩
                go_simp
                exact hK _ _ (Mv.refl _ _) rfl
              · intro vs hl u1 hb hd
                obtain ⟨v0, v1, v2, v3, v4, v5, v6, v7, v8, v9, v10, rfl⟩ := len11 hl
                clear hl
                intro K hK
                simp only [fs, fo, fz, Act.put, s1, s2, s3] at hK ⊢
                refine ⟨?_⟩
                go_simp
                exact hK _ _ (Mv.refl _ _) rfl
              · intro vs hl u1 hb hd
                obtain ⟨v0, v1, v2, v3, v4, v5, v6, v7, v8, v9, v10, rfl⟩ := len11 hl
                clear hl
                obtain ⟨kh0, kh1, _⟩ := hd
                obtain rfl : v0 = .slice (some ⟨go, 0, none⟩) m co := kh0
                obtain rfl : v1 = .int .i64 (i : Int) := kh1
                intro K hK
                simp only [fs, fo, fz, Act.put, s1, s2, s3] at hK ⊢
                refine ⟨?_⟩
                go_simp
                exact hK _ _ (Mv.refl _ _) rfl
              · intro vs hl u1 hb hd
                obtain ⟨v0, v1, v2, v3, v4, v5, v6, v7, v8, v9, v10, rfl⟩ := len11 hl
                clear hl
                obtain ⟨kh2, _⟩ := hd
                obtain rfl : v2 = .pointer (some ⟨go, i, none⟩) := kh2
                intro K hK
                have l0 := hb.cellv (show wd.drew.cell? _ = _ from hz) (fun h => h)
                simp only [fs, fo, fz, Act.put, s1, s2, s3] at hK ⊢
                refine ⟨?_⟩
                go_simp
                exact hK _ _ (Mv.refl _ _) rfl
              · intro vs hl u1 hb hd
                obtain ⟨v0, v1, v2, v3, v4, v5, v6, v7, v8, v9, v10, rfl⟩ := len11 hl
                clear hl
                intro K hK
                simp only [fs, fo, fz, Act.put, s1, s2, s3] at hK ⊢
                refine ⟨?_⟩
                go_simp
                exact hK _ _ (Mv.refl _ _) rfl
              · intro vs hl u1 hb hd
                obtain ⟨v0, v1, v2, v3, v4, v5, v6, v7, v8, v9, v10, rfl⟩ := len11 hl
                clear hl
                intro K hK
                simp only [fs, fo, fz, Act.put, s1, s2, s3] at hK ⊢
                refine ⟨?_⟩
                go_simp
                exact hK _ _ (Mv.refl _ _) rfl
              · intro vs hl u1 hb hd
                obtain ⟨v0, v1, v2, v3, v4, v5, v6, v7, v8, v9, v10, rfl⟩ := len11 hl
                clear hl
                obtain ⟨kh4, kh5, _⟩ := hd
                obtain rfl : v4 = .slice (some ⟨g, 0, none⟩) n cp := kh4
                obtain rfl : v5 = .int .i64 (k : Int) := kh5
                intro K hK
                simp only [fs, fo, fz, Act.put, s1, s2, s3] at hK ⊢
                refine ⟨?_⟩
                go_simp
                exact hK _ _ (Mv.refl _ _) rfl
              · intro vs hl u1 hb hd
                obtain ⟨v0, v1, v2, v3, v4, v5, v6, v7, v8, v9, v10, rfl⟩ := len11 hl
                clear hl
                obtain ⟨kh6, _⟩ := hd
                obtain rfl : v6 = .pointer (some ⟨g, k * 2, none⟩) := kh6
                intro K hK
                simp only [fs, fo, fz, Act.put, s1, s2, s3] at hK ⊢
                refine ⟨?_⟩
                go_simp
                exact hK _ _ (Mv.refl _ _) rfl
              · intro vs hl u1 hb hd
                obtain ⟨v0, v1, v2, v3, v4, v5, v6, v7, v8, v9, v10, rfl⟩ := len11 hl
                clear hl
                obtain ⟨kh7, _⟩ := hd
                obtain rfl : v7 = .pointer (some ⟨g, k * 2, none⟩) := kh7
                intro K hK
                have l0 := hb.cellv (show wd.drew.cell? _ = _ from hy) (fun h => h)
                simp only [fs, fo, fz, Act.put, s1, s2, s3] at hK ⊢
                refine ⟨?_⟩
                go_simp
                exact hK _ _ (Mv.refl _ _) rfl
              · intro vs hl u1 hb hd
                obtain ⟨v0, v1, v2, v3, v4, v5, v6, v7, v8, v9, v10, rfl⟩ := len11 hl
                clear hl
                obtain ⟨kh3, kh8, _⟩ := hd
                obtain rfl : v3 = .float .f64 (rf Bo (i : Int)) := kh3
                obtain rfl : v8 = .float .f64 (el P k).1 := kh8
                intro K hK
                simp only [fs, fo, fz, Act.put, s1, s2, s3] at hK ⊢
                refine ⟨?_⟩
                go_simp
                exact hK _ _ (Mv.of (below_drewN (Below.refl _ _) _)) ⟨_, rfl, fAr_same HX.out.2.2 (HP.out.at_ hk).1 _⟩
              · intro vs hl u1 hb hd
                obtain ⟨v0, v1, v2, v3, v4, v5, v6, v7, v8, v9, v10, rfl⟩ := len11 hl
                clear hl
                obtain ⟨kh0, kh1, _, _, kh2, kh3, kh4, kh5, kh6, kh7, kh8, kh9, _⟩ := hd
                obtain rfl : v0 = .slice (some ⟨go, 0, none⟩) m co := kh0
                obtain rfl : v1 = .int .i64 (i : Int) := kh1
                obtain rfl : v2 = .pointer (some ⟨go, i, none⟩) := kh2
                obtain rfl : v3 = .float .f64 (rf Bo (i : Int)) := kh3
                obtain rfl : v4 = .slice (some ⟨g, 0, none⟩) n cp := kh4
                obtain rfl : v5 = .int .i64 (k : Int) := kh5
                obtain rfl : v6 = .pointer (some ⟨g, k * 2, none⟩) := kh6
                obtain rfl : v7 = .pointer (some ⟨g, k * 2, none⟩) := kh7
                obtain rfl : v8 = .float .f64 (el P k).1 := kh8
                obtain ⟨m9, rfl, kf9_0⟩ := kh9
                intro K hK
                simp only [fs, fo, fz, Act.put, s1, s2, s3] at hK ⊢
                refine ⟨?_⟩
                go_simp
                exact hK _ _ (Mv.refl _ _) rfl
              · refine Rt.allOkL_last ?_
                unfold Rt.LastOk
                intro vs hl w1 hb hd ha K hK
                obtain ⟨v0, v1, v2, v3, v4, v5, v6, v7, v8, v9, v10, rfl⟩ := len11 hl
                clear hl
                obtain ⟨kh0, kh1, kh2, kh3, kh4, kh5, kh6, kh7, kh8, kh9, kh10, _⟩ := hd
                obtain rfl : v0 = .slice (some ⟨go, 0, none⟩) m co := kh0
                obtain rfl : v1 = .int .i64 (i : Int) := kh1
                obtain rfl : v2 = .pointer (some ⟨go, i, none⟩) := kh2
                obtain rfl : v3 = .float .f64 (rf Bo (i : Int)) := kh3
                obtain rfl : v4 = .slice (some ⟨g, 0, none⟩) n cp := kh4
                obtain rfl : v5 = .int .i64 (k : Int) := kh5
                obtain rfl : v6 = .pointer (some ⟨g, k * 2, none⟩) := kh6
                obtain rfl : v7 = .pointer (some ⟨g, k * 2, none⟩) := kh7
                obtain rfl : v8 = .float .f64 (el P k).1 := kh8
                obtain ⟨m9, rfl, kf9_0⟩ := kh9
                obtain rfl : v10 = .pointer (some ⟨go, i, none⟩) := kh10
                clear ha
                simp only [fs, fo, fz, Act.put, s1, s2, s3] at hK ⊢
                replace BX := hb.blk BX (fun h => h)
                have hbw : Below wd.heap.size wd w1 := Below.trans (show Below wd.heap.size wd wd.drew from pw_below_drewN (Below.refl _ _) 1) (hb.below (fun _ h => h.elim))
                replace HO := Aside0.mk (Kd.R_below HO.out hbw)
                replace HQ := Aside0.mk (Kd.R_below HQ.out hbw)
                clear hbw
                replace HB := Aside0.mk (HB.out.trans (Below.trans (show Below w.heap.size wd wd.drew from pw_below_drewN (Below.refl _ _) 1) (hb.belowB HB.out.size (fun _ h => h.elim))))
                clear hb
                clear hz hy hy2
                obtain ⟨hz, hfz⟩ := R_cellN 0 HQ.out i hi
                have HPo := Aside0.mk (R_putN HQ.out i m9)
                have HSx := Aside0.mk (set_rf (R := fun j b => Same .f64 b (vlS mean h j n)) HX.out.1 hi HX.out.2.1 (x := m9))
                have H9 := Aside0.mk kf9_0
                clear kf9_0
                refine ⟨?_⟩
                go_simp
                refine hK _ _ ?_
                clear hK
                have HOx := Aside0.mk (Kd.R_over HO.out HQ.out (by decide) (show w1.grownBy _ (Value.slice (some ⟨go, 0, none⟩) m co).ownBlock from HPo.out.2))
                have CX := BX.far (.float .f64 m9) (by omega : gx ≠ go) (i := i)
                have HC := Aside0.mk (below_st HB.out (p := ⟨go, i, none⟩) GO.out (.float .f64 m9))
                have HQx := Aside0.mk HPo.out.1
                clear hz hfz BX HO HQ HB HPo
                generalize w1.setCell ⟨go, i, none⟩ (.float .f64 m9) = wf at CX HOx HQx HC ⊢
                have BX := CX
                have HO := HOx
                have HQ := HQx
                have HB := HC
                clear CX HOx HQx HC
                obtain ⟨hy, hy2, hf, hf2⟩ := kw_cells HO.out k hk
                have HT := Aside0.mk (HF.out k hk).2
                clear hf hf2
                go_upto_region 18 with fail
                replace BX := BX.drew
                refine Rt.region_spl (M := (fun _ => False)) (by kernel_rfl) [some 64, some 65, some 66, some 67, some 68, some 69, some 70, some 71, some 72, some 73] [u64, u65, u66, u67, u68, u69, u70, u71, u72, u73] [] [Rt.Sp.val (fun v u_ => v = .slice (some ⟨g, 0, none⟩) n cp), Rt.Sp.val (fun v u_ => v = .int .i64 (k : Int)), Rt.Sp.val (fun v u_ => v = .slice (some ⟨g, 0, none⟩) n cp), Rt.Sp.val (fun v u_ => v = .int .i64 (k : Int)), Rt.Sp.val (fun v u_ => v = .pointer (some ⟨g, k * 2, none⟩)), Rt.Sp.val (fun v u_ => v = .agg #[.float .f64 (el P k).1, .float .f64 (el P k).2]), Rt.Sp.val (fun v u_ => v = .pointer (some ⟨gx, 2, none⟩)), Rt.Sp.val (fun v u_ => v = .agg #[.float .f64 (eh l k).2.1, .float .f64 (eh l k).2.2]), Rt.Sp.val (fun v u_ => ∃ (r9 : Nat) (c9 : Nat), v = .agg #[.float .f64 r9, .float .f64 c9] ∧ SameW .f64 (r9, c9) (phS h k (i + 1))), Rt.Sp.val (fun v u_ => v = .pointer (some ⟨g, k * 2, none⟩))] (by kernel_rfl) rfl (by kernel_rfl) (fun _ h => h.elim) ⟨(fun _ _ _ h _ => h), (fun _ _ _ h _ => h), (fun _ _ _ h _ => h), (fun _ _ _ h _ => h), (fun _ _ _ h _ => h), (fun _ _ _ h _ => h), (fun _ _ _ h _ => h), (fun _ _ _ h _ => h), (fun _ _ _ h _ => h), (fun _ _ _ h _ => h), trivial⟩ ⟨?_, ?_, ?_, ?_, ?_, ?_, ?_, ?_, ?_, ?_, ?_⟩
                · intro vs hl u1 hb hd
                  obtain ⟨v0, v1, v2, v3, v4, v5, v6, v7, v8, v9, rfl⟩ := len10 hl
                  clear hl
                  intro K hK
                  simp only [fs, fo, fz, Act.put, s1, s2, s3] at hK ⊢
                  refine ⟨?_⟩
                  go_simp
                  exact hK _ _ (Mv.refl _ _) rfl
                · intro vs hl u1 hb hd
                  obtain ⟨v0, v1, v2, v3, v4, v5, v6, v7, v8, v9, rfl⟩ := len10 hl
                  clear hl
                  intro K hK
                  simp only [fs, fo, fz, Act.put, s1, s2, s3] at hK ⊢
                  refine ⟨?_⟩
                  go_simp
                  exact hK _ _ (Mv.refl _ _) rfl
                · intro vs hl u1 hb hd
                  obtain ⟨v0, v1, v2, v3, v4, v5, v6, v7, v8, v9, rfl⟩ := len10 hl
                  clear hl
                  intro K hK
                  simp only [fs, fo, fz, Act.put, s1, s2, s3] at hK ⊢
                  refine ⟨?_⟩
                  go_simp
                  exact hK _ _ (Mv.refl _ _) rfl
                · intro vs hl u1 hb hd
                  obtain ⟨v0, v1, v2, v3, v4, v5, v6, v7, v8, v9, rfl⟩ := len10 hl
                  clear hl
                  intro K hK
                  simp only [fs, fo, fz, Act.put, s1, s2, s3] at hK ⊢
                  refine ⟨?_⟩
                  go_simp
                  exact hK _ _ (Mv.refl _ _) rfl
                · intro vs hl u1 hb hd
                  obtain ⟨v0, v1, v2, v3, v4, v5, v6, v7, v8, v9, rfl⟩ := len10 hl
                  clear hl
                  obtain ⟨kh2, kh3, _⟩ := hd
                  obtain rfl : v2 = .slice (some ⟨g, 0, none⟩) n cp := kh2
                  obtain rfl : v3 = .int .i64 (k : Int) := kh3
                  intro K hK
                  simp only [fs, fo, fz, Act.put, s1, s2, s3] at hK ⊢
                  refine ⟨?_⟩
                  go_simp
                  exact hK _ _ (Mv.refl _ _) rfl
                · intro vs hl u1 hb hd
                  obtain ⟨v0, v1, v2, v3, v4, v5, v6, v7, v8, v9, rfl⟩ := len10 hl
                  clear hl
                  obtain ⟨kh4, _⟩ := hd
                  obtain rfl : v4 = .pointer (some ⟨g, k * 2, none⟩) := kh4
                  intro K hK
                  have l0 := hb.cellv (show wf.drew.cell? _ = _ from hy) (fun h => h)
                  have l1 := hb.cellv (show wf.drew.cell? _ = _ from hy2) (fun h => h)
                  simp only [fs, fo, fz, Act.put, s1, s2, s3] at hK ⊢
                  refine ⟨?_⟩
                  go_simp
                  exact hK _ _ (Mv.refl _ _) rfl
                · intro vs hl u1 hb hd
                  obtain ⟨v0, v1, v2, v3, v4, v5, v6, v7, v8, v9, rfl⟩ := len10 hl
                  clear hl
                  intro K hK
                  simp only [fs, fo, fz, Act.put, s1, s2, s3] at hK ⊢
                  refine ⟨?_⟩
                  go_simp
                  exact hK _ _ (Mv.refl _ _) rfl
                · intro vs hl u1 hb hd
                  obtain ⟨v0, v1, v2, v3, v4, v5, v6, v7, v8, v9, rfl⟩ := len10 hl
                  clear hl
                  obtain ⟨kh6, _⟩ := hd
                  obtain rfl : v6 = .pointer (some ⟨gx, 2, none⟩) := kh6
                  intro K hK
                  obtain ⟨l0, l1, l2, l3⟩ := (hb.blk BX (fun h => h)).four
                  simp only [fs, fo, fz, Act.put, s1, s2, s3] at hK ⊢
                  refine ⟨?_⟩
                  go_simp
                  exact hK _ _ (Mv.refl _ _) rfl
                · intro vs hl u1 hb hd
                  obtain ⟨v0, v1, v2, v3, v4, v5, v6, v7, v8, v9, rfl⟩ := len10 hl
                  clear hl
                  obtain ⟨kh5, kh7, _⟩ := hd
                  obtain rfl : v5 = .agg #[.float .f64 (el P k).1, .float .f64 (el P k).2] := kh5
                  obtain rfl : v7 = .agg #[.float .f64 (eh l k).2.1, .float .f64 (eh l k).2.2] := kh7
                  intro K hK
                  simp only [fs, fo, fz, Act.put, s1, s2, s3] at hK ⊢
                  refine ⟨?_⟩
                  go_simp
                  refine (times_impl _ _ _ _ _).mono ?_
                  rintro e w2 ⟨r9, c9, rfl, hq0, hq1, hb2⟩
                  exact hK _ _ (Mv.of hb2) ⟨r9, c9, rfl, by rw [phS, ← tmP_same (HP.out.at_ hk) HT.out]; exact ⟨hq0, hq1⟩⟩
                · intro vs hl u1 hb hd
                  obtain ⟨v0, v1, v2, v3, v4, v5, v6, v7, v8, v9, rfl⟩ := len10 hl
                  clear hl
                  obtain ⟨kh0, kh1, _, _, kh2, kh3, kh4, kh5, kh6, kh7, kh8, _⟩ := hd
                  obtain rfl : v0 = .slice (some ⟨g, 0, none⟩) n cp := kh0
                  obtain rfl : v1 = .int .i64 (k : Int) := kh1
                  obtain rfl : v2 = .slice (some ⟨g, 0, none⟩) n cp := kh2
                  obtain rfl : v3 = .int .i64 (k : Int) := kh3
                  obtain rfl : v4 = .pointer (some ⟨g, k * 2, none⟩) := kh4
                  obtain rfl : v5 = .agg #[.float .f64 (el P k).1, .float .f64 (el P k).2] := kh5
                  obtain rfl : v6 = .pointer (some ⟨gx, 2, none⟩) := kh6
                  obtain rfl : v7 = .agg #[.float .f64 (eh l k).2.1, .float .f64 (eh l k).2.2] := kh7
                  obtain ⟨r9, c9, rfl, kf8_0⟩ := kh8
                  intro K hK
                  simp only [fs, fo, fz, Act.put, s1, s2, s3] at hK ⊢
                  refine ⟨?_⟩
                  go_simp
                  exact hK _ _ (Mv.refl _ _) rfl
                · refine Rt.allOkL_last ?_
                  unfold Rt.LastOk
                  intro vs hl w2 hb hd ha K hK
                  obtain ⟨v0, v1, v2, v3, v4, v5, v6, v7, v8, v9, rfl⟩ := len10 hl
                  clear hl
                  obtain ⟨kh0, kh1, kh2, kh3, kh4, kh5, kh6, kh7, kh8, kh9, _⟩ := hd
                  obtain rfl : v0 = .slice (some ⟨g, 0, none⟩) n cp := kh0
                  obtain rfl : v1 = .int .i64 (k : Int) := kh1
                  obtain rfl : v2 = .slice (some ⟨g, 0, none⟩) n cp := kh2
                  obtain rfl : v3 = .int .i64 (k : Int) := kh3
                  obtain rfl : v4 = .pointer (some ⟨g, k * 2, none⟩) := kh4
                  obtain rfl : v5 = .agg #[.float .f64 (el P k).1, .float .f64 (el P k).2] := kh5
                  obtain rfl : v6 = .pointer (some ⟨gx, 2, none⟩) := kh6
                  obtain rfl : v7 = .agg #[.float .f64 (eh l k).2.1, .float .f64 (eh l k).2.2] := kh7
                  obtain ⟨r9, c9, rfl, kf8_0⟩ := kh8
                  obtain rfl : v9 = .pointer (some ⟨g, k * 2, none⟩) := kh9
                  clear ha
                  simp only [fs, fo, fz, Act.put, s1, s2, s3] at hK ⊢
                  replace BX := hb.blk BX (fun h => h)
                  have hbw : Below wf.heap.size wf w2 := Below.trans (show Below wf.heap.size wf wf.drew from pw_below_drewN (Below.refl _ _) 1) (hb.below (fun _ h => h.elim))
                  replace HO := Aside0.mk (Kd.R_below HO.out hbw)
                  replace HQ := Aside0.mk (Kd.R_below HQ.out hbw)
                  clear hbw
                  replace HB := Aside0.mk (HB.out.trans (Below.trans (show Below w.heap.size wf wf.drew from pw_below_drewN (Below.refl _ _) 1) (hb.belowB HB.out.size (fun _ h => h.elim))))
                  clear hb
                  clear hy hy2
                  obtain ⟨hy, hy2, hf, hf2⟩ := kw_cells HO.out k hk
                  have HPP := Aside0.mk (HP.out.step hk kf8_0)
                  have HRR := Aside0.mk (kw_putg HO.out k hk r9 c9 trivial)
                  clear kf8_0
                  refine ⟨?_⟩
                  go_simp
                  refine hK _ _ ?_
                  clear hK
                  have HQQ := Aside0.mk (Kd.R_over HQ.out HO.out (by decide) (show w2.grownBy _ (Value.slice (some ⟨g, 0, none⟩) n cp).ownBlock from HRR.out.2))
                  clear hy hy2 hf hf2 BX
                  go_wp2
                  have e1 := wk hk (by have := HL.out; omega)
                  exact ⟨⟨k + 1, _, _, congrArg (Value.int .i64) (by first | exact e1 | omega), ⟨by omega⟩, ⟨HSx.out.1, HSx.out.2.1, by rw [HSx.out.2.2]; exact H9.out⟩, HPP, ⟨HRR.out.1⟩, HQQ, ⟨below_set (below_set HB.out GB.out) GB.out⟩⟩, by (try rw [e1]); simp [RowKit.intOf]; omega⟩
            · have hd2 : decide ((k : Int) < (n : Int)) = false := decide_eq_false (by omega)
              obtain rfl : n = k := by have := HK.out; omega
              have HPN := Aside0.mk HP.out.next
              have e1 := wk hi (by have := HM.out; omega)
              go_wp2
              exact ⟨⟨i + 1, P, Bo, congrArg (Value.int .i64) (by first | exact e1 | omega), ⟨by omega, HX.out.1, fun j hj => (by by_cases e : j = i; (subst e; exact HX.out.2.2); exact HX.out.2.1 j (by omega))⟩, HPN, HO, HQ, HB⟩, by (try rw [e1]); simp [RowKit.intOf]; omega⟩
        · have hd : decide ((i : Int) < (m : Int)) = false := decide_eq_false (by omega)
          obtain rfl : m = i := by have := HI.out.1; omega
          go_wp2
          refine ret_val ?_ rfl; simp [results, Try.results57, go_sem]
          exact ⟨⟨Bo, HQ.out, HI.out.2.1, HI.out.2.2⟩, HB.out⟩
def tdOk (n : Nat) (mins : Int) : Bool := decide (n ≤ 8 ∧ 0 ≤ mins ∧ mins ≤ 1500)
def tdLen (n : Nat) (mins : Int) : Nat := if tdOk n mins = true then mins.toNat else 0
theorem tdLen_le (n : Nat) (mins : Int) : tdLen n mins ≤ 1500 := by
  unfold tdLen
  split
  · rename_i h; have := of_decide_eq_true h; omega
  · omega
set_option maxHeartbeats 4000000 in
set_option maxRecDepth 100000 in
theorem tide_spec_no (mean : Nat) (A0 : Option Addr) (c0 n : Nat) (mins : Int) (h : Nat → Nat) (w : World) (hn : n ≤ 1048576) (hk : ¬ (n ≤ 8 ∧ 0 ≤ mins ∧ mins ≤ 1500)) :
    Calls Try.prog 55 #[.float .f64 mean, .slice A0 n c0, .int .i64 mins] w fun e w' => ∃ v, e = .returned (.tuple #[v, .bool false]) ∧ RowIs w w' 0 h v ∧ Below w.heap.size w w' := by
  by_cases h8 : n ≤ 8
  · have hg0 : decide ((n : Int) > 8) = false := decide_eq_false (by omega)
    have hg1 : ¬ (8 < n) := by omega
    have ci := fun w => l1In_F mins (fun q => hk ⟨h8, q⟩) w
    clear hk hn h8
    go_enter Try.func55, Try.ntmps55
    go_wp2_with fail
    refine (ci _).mono ?_
    rintro e w' ⟨rfl, hw⟩
    obtain rfl : w = w' := hw.symm
    clear ci
    go_wp2_with (first | ((with_reducible refine gate_dst (N := 22) rfl ?_); refine Kd.R_lit kf _ 23 ?hg (N := 22) ?hd (xs := ([] : List Nat)) (inner := []) (ok := fun _ => True) (okp := fun _ => True) ?hr ?hp (fun _ hk => hk) trivial (Below.refl _ _) (Nat.le_refl _) (by simp) ?_; (case hd => rfl); (case hg => rfl); (case hr => first | (go_simp; done) | (go_simp; rfl)); (case hp => exact (Reps.none _ _)); intro vm wm hom hbm hg_ hnew_; clear hg_ hnew_; have HO := Aside0.mk hom; have HB := Aside0.mk hbm; clear hom hbm))
    refine ret_val ?_ rfl; simp [results, Try.results55, go_sem]
    exact ⟨⟨[], HO.out, rfl, fun j hj => by omega⟩, HB.out⟩
  · have hg0 : decide ((n : Int) > 8) = true := decide_eq_true (by omega)
    have hg1 : 8 < n := by omega
    clear hk hn h8
    go_enter Try.func55, Try.ntmps55
    go_wp2_with (first | ((with_reducible refine gate_dst (N := 22) rfl ?_); refine Kd.R_lit kf _ 23 ?hg (N := 22) ?hd (xs := ([] : List Nat)) (inner := []) (ok := fun _ => True) (okp := fun _ => True) ?hr ?hp (fun _ hk => hk) trivial (Below.refl _ _) (Nat.le_refl _) (by simp) ?_; (case hd => rfl); (case hg => rfl); (case hr => first | (go_simp; done) | (go_simp; rfl)); (case hp => exact (Reps.none _ _)); intro vm wm hom hbm hg_ hnew_; clear hg_ hnew_; have HO := Aside0.mk hom; have HB := Aside0.mk hbm; clear hom hbm))
    refine ret_val ?_ rfl; simp [results, Try.results55, go_sem]
    exact ⟨⟨[], HO.out, rfl, fun j hj => by omega⟩, HB.out⟩
theorem tide_spec_all (mean : Nat) (A0 : Option Addr) (c0 n : Nat) (mins : Int) (l : List H4) (h : Nat → H4) (w : World) (hr : kh.C w A0 n l) (hn : n ≤ 1048576) (hf : ∀ j : Nat, j < n → SameH (eh l j) (h j)) :
    Calls Try.prog 55 #[.float .f64 mean, .slice A0 n c0, .int .i64 mins] w fun e w' => ∃ v, e = .returned (.tuple #[v, .bool (tdOk n mins)]) ∧ RowIs w w' (tdLen n mins) (fun i => vlS mean h i n) v ∧ Below w.heap.size w w' := by
  by_cases hk : n ≤ 8 ∧ 0 ≤ mins ∧ mins ≤ 1500
  · have e : tdOk n mins = true := decide_eq_true hk
    unfold tdLen
    rw [e, if_pos rfl]
    obtain ⟨m, rfl⟩ := Int.eq_ofNat_of_zero_le hk.2.1
    rw [Int.toNat_natCast]
    exact tide_spec mean A0 c0 n m l h w hr hk.1 (by omega) hf
  · have e : tdOk n mins = false := decide_eq_false hk
    unfold tdLen
    rw [e, if_neg (by simp)]
    exact tide_spec_no mean A0 c0 n mins _ w hn hk
set_option maxHeartbeats 4000000 in
set_option maxRecDepth 100000 in
theorem tide_impl_no (mean : Nat) (A0 : Option Addr) (c0 n : Nat) (mins : Int) (h : Nat → Nat) (w : World) (hn : n ≤ 1048576) (hk : ¬ (n ≤ 8 ∧ 0 ≤ mins ∧ mins ≤ 1500)) :
    Calls Try.prog 57 #[.float .f64 mean, .slice A0 n c0, .int .i64 mins] w fun e w' => ∃ v, e = .returned (.tuple #[v, .bool false]) ∧ RowIs w w' 0 h v ∧ Below w.heap.size w w' := by
  by_cases h8 : n ≤ 8
  · have hg0 : decide ((n : Int) > 8) = false := decide_eq_false (by omega)
    have hg1 : ¬ (8 < n) := by omega
    have ci := fun w => in_F mins (fun q => hk ⟨h8, q⟩) w
    clear hk hn h8
    go_enter Try.func57, Try.ntmps57
    go_wp2_with fail
    refine (ci _).mono ?_
    rintro e w' ⟨rfl, hw⟩
    obtain rfl : w = w' := hw.symm
    clear ci
    go_wp2
    refine ret_val ?_ rfl; simp [results, Try.results57, go_sem]
    exact ⟨⟨[], Kd.R_nil _ _ _ _ _, rfl, fun j hj => by omega⟩, Below.refl _ _⟩
  · have hg0 : decide ((n : Int) > 8) = true := decide_eq_true (by omega)
    have hg1 : 8 < n := by omega
    clear hk hn h8
    go_enter Try.func57, Try.ntmps57
    go_wp2
    refine ret_val ?_ rfl; simp [results, Try.results57, go_sem]
    exact ⟨⟨[], Kd.R_nil _ _ _ _ _, rfl, fun j hj => by omega⟩, Below.refl _ _⟩
theorem tide_impl_all (mean : Nat) (A0 : Option Addr) (c0 n : Nat) (mins : Int) (l : List H4) (h : Nat → H4) (w : World) (hr : kh.C w A0 n l) (hn : n ≤ 1048576) (hf : ∀ j : Nat, j < n → SameH (eh l j) (h j)) :
    Calls Try.prog 57 #[.float .f64 mean, .slice A0 n c0, .int .i64 mins] w fun e w' => ∃ v, e = .returned (.tuple #[v, .bool (tdOk n mins)]) ∧ RowIs w w' (tdLen n mins) (fun i => vlS mean h i n) v ∧ Below w.heap.size w w' := by
  by_cases hk : n ≤ 8 ∧ 0 ≤ mins ∧ mins ≤ 1500
  · have e : tdOk n mins = true := decide_eq_true hk
    unfold tdLen
    rw [e, if_pos rfl]
    obtain ⟨m, rfl⟩ := Int.eq_ofNat_of_zero_le hk.2.1
    rw [Int.toNat_natCast]
    exact tide_impl mean A0 c0 n m l h w hr hk.1 (by omega) hf
  · have e : tdOk n mins = false := decide_eq_false hk
    unfold tdLen
    rw [e, if_neg (by simp)]
    exact tide_impl_no mean A0 c0 n mins _ w hn hk
end Go.Proofs.Ytphfmcdkldcmiaa.Fl
/- The law of TideDay, walked over the contracts of what it calls. -/
namespace Go.Proofs.Ytphfmcdkldcmiaa.Fl
open Go Go.RowKit Go.Proofs.YtphfmcdkldcmiaaW.PrintWords Go.Proofs.YtphfmcdkldcmiaaW.PrintLast Go.Proofs.YtphfmcdkldcmiaaW.PrintMore Go.Proofs.Ytphfmcdkldcmiaa.Mk
set_option linter.unusedVariables false
set_option linter.unusedSimpArgs false
theorem szHarmonicS_no (A : Option Addr) (n c : Nat) (a : Int) (w : World) (hn : n ≤ 9223372036854775807) (h0 : 0 ≤ a) (h1 : a ≤ 1048576) (h : a < n) :
    Calls Try.prog 54 #[.slice A n c, .int .i64 a] w fun e w' => e = .returned (.int .i64 (-1)) ∧ w' = w := by
  have e1 : wrap64 (a - (n : Int)) = a - n := w64 _ (by omega) (by omega)
  have hd : decide (a - (n : Int) < 0) = true := decide_eq_true (by omega)
  clear hn h0 h1 h
  go_enter Try.func54, Try.ntmps54
  go_wp2
  go_ret
  exact ⟨rfl, rfl⟩
theorem szHarmonicS_ok (A : Option Addr) (n c : Nat) (a : Int) (w : World) (hn : n ≤ 9223372036854775807) (h0 : 0 ≤ a) (h1 : a ≤ 1048576) (h : n ≤ a) :
    Calls Try.prog 54 #[.slice A n c, .int .i64 a] w fun e w' => e = .returned (.int .i64 (a - n)) ∧ w' = w := by
  have e1 : wrap64 (a - (n : Int)) = a - n := w64 _ (by omega) (by omega)
  have hd : decide (a - (n : Int) < 0) = false := decide_eq_false (by omega)
  clear hn h0 h1 h
  go_enter Try.func54, Try.ntmps54
  go_wp2
  go_ret
  exact ⟨congrArg (fun x => Ending.returned (.int .i64 x)) e1, rfl⟩
set_option maxHeartbeats 16000000 in
set_option maxRecDepth 100000 in
theorem law_TideDay (mean : Nat) (A0 : Option Addr) (c0 n : Nat) (l0 : List H4) (mins : Int) (okv : Bool) (m : Nat) (g : Nat → Nat) (w : World) (hr : kh.C w A0 n l0) (hc : n ≤ c0) (hl : n ≤ 1048576) (hm : m ≤ 1500)
    (ys : ∀ (W : World) (A : Option Addr) (c : Nat) (l : List H4), kh.C W A n l → (∀ j : Nat, j < n → SameH (eh l j) (eh l0 j)) → Calls Try.prog 55 #[.float .f64 mean, .slice A n c, .int .i64 mins] W fun e w' => ∃ v, e = .returned (.tuple #[v, .bool okv]) ∧ RowIs W w' m g v ∧ Below W.heap.size W w')
    (yg : ∀ (W : World) (A : Option Addr) (c : Nat) (l : List H4), kh.C W A n l → (∀ j : Nat, j < n → SameH (eh l j) (eh l0 j)) → Calls Try.prog 57 #[.float .f64 mean, .slice A n c, .int .i64 mins] W fun e w' => ∃ v, e = .returned (.tuple #[v, .bool okv]) ∧ RowIs W w' m g v ∧ Below W.heap.size W w') :
    Calls Try.prog 12 #[.float .f64 mean, .slice A0 n c0, .int .i64 mins] w fun e w' => e = .returned (.bool true) ∧ Below w.heap.size w w' := by
  have Hys := Aside0.mk ys
  have Hyg := Aside0.mk yg
  have Hhr := Aside0.mk hr
  have Hhc := Aside0.mk hc
  have Hhl := Aside0.mk hl
  have Hhm := Aside0.mk hm
  have cz := szHarmonicS_ok A0 n c0 1048576 w (by omega) (by omega) (by omega) (by omega)
  clear ys yg hr hc
  have t1 : decide ((1048576 : Int) - (n : Int) < 0) = false := decide_eq_false (by omega)
  have t2 : ∀ n : Nat, decide ((1 : Int) + (n : Int) < 0) = false := fun n => decide_eq_false (by omega)
  have t3 : decide ((1 : Int) + 4 * (n : Int) < 0) = false := decide_eq_false (by omega)
  clear hl hm
  have hne : (okv == okv) = true := by cases okv <;> rfl
  have hne2 : (okv != okv) = false := by cases okv <;> rfl
  have HB := Aside0.mk (Below.refl w.heap.size w)
  go_enter Try.func12, Try.ntmps12
  go_wp2_with fail
  refine cz.mono ?_
  rintro e w' ⟨rfl, hw⟩
  obtain rfl : w = w' := hw.symm
  clear cz
  have ct := toHarmonicS_any A0 c0 n l0 w (Kd.C_below Hhr.out HB.out) Hhc.out Hhl.out
  go_wp2_with fail
  refine ct.mono ?_
  rintro e w1 ⟨v_, Ba, rfl, ho, hlen, hf, hb⟩
  clear ct
  have S1 := Aside0.mk hb.size
  replace HB := Aside0.mk (HB.out.trans (hb.mono HB.out.size))
  clear hb
  have Ha := Aside0.mk (RowR.new ho)
  have La := Aside0.mk hlen
  have Fa := Aside0.mk hf
  obtain ⟨Aa, ca, rfl⟩ := Ha.out.slice
  rw [La.out] at Ha ⊢
  clear ho hlen hf
  have ct := Hys.out w1 Aa ca Ba (by have q := Ha.out.reads.2.2; rw [La.out] at q; exact q) Fa.out
  go_wp2_with fail
  refine ct.mono ?_
  rintro e w2 ⟨v_, rfl, ⟨Bs, ho, hlen, hf⟩, hb⟩
  clear ct
  replace Ha := Aside0.mk (Ha.out.below hb)
  have S2 := Aside0.mk hb.size
  replace HB := Aside0.mk (HB.out.trans (hb.mono HB.out.size))
  clear hb
  have Hs := Aside0.mk (RowR.new ho)
  have Ls := Aside0.mk hlen
  have Fs := Aside0.mk hf
  obtain ⟨As, cs, rfl⟩ := Hs.out.slice
  rw [Ls.out] at Hs ⊢
  clear ho hlen hf
  clear Ha La Fa
  have ct := toHarmonicS_any A0 c0 n l0 w2 (Kd.C_below Hhr.out HB.out) Hhc.out Hhl.out
  go_wp2_with fail
  refine ct.mono ?_
  rintro e w3 ⟨v_, Bx, rfl, ho, hlen, hf, hb⟩
  clear ct
  replace Hs := Aside0.mk (Hs.out.below hb)
  have S3 := Aside0.mk hb.size
  replace HB := Aside0.mk (HB.out.trans (hb.mono HB.out.size))
  clear hb
  have Hx := Aside0.mk (RowR.new ho)
  have Lx := Aside0.mk hlen
  have Fx := Aside0.mk hf
  obtain ⟨Ax, cx, rfl⟩ := Hx.out.slice
  rw [Lx.out] at Hx ⊢
  clear ho hlen hf
  have ct := Hyg.out w3 Ax cx Bx (by have q := Hx.out.reads.2.2; rw [Lx.out] at q; exact q) Fx.out
  go_wp2_with fail
  refine ct.mono ?_
  rintro e w4 ⟨v_, rfl, ⟨Bg, ho, hlen, hf⟩, hb⟩
  clear ct
  replace Hs := Aside0.mk (Hs.out.below hb)
  replace Hx := Aside0.mk (Hx.out.below hb)
  have S4 := Aside0.mk hb.size
  replace HB := Aside0.mk (HB.out.trans (hb.mono HB.out.size))
  clear hb
  have Hg := Aside0.mk (RowR.new ho)
  have Lg := Aside0.mk hlen
  have Fg := Aside0.mk hf
  obtain ⟨Ag, cg, rfl⟩ := Hg.out.slice
  rw [Lg.out] at Hg ⊢
  clear ho hlen hf
  have ct := eqF_any Ag cg Bg As cs Bs m w4 Hg.out.reads.2.2 Hs.out.reads.2.2 Lg.out Ls.out (by have := Hhl.out; have := Hhm.out; omega) (fun j hj => (Fg.out j hj).trans (Fs.out j hj).symm)
  go_wp2_with fail
  refine ct.mono ?_
  rintro e w5 ⟨rfl, hb⟩
  clear ct
  replace Hs := Aside0.mk (Hs.out.below hb)
  replace Hx := Aside0.mk (Hx.out.below hb)
  replace Hg := Aside0.mk (Hg.out.below hb)
  have S5 := Aside0.mk hb.size
  replace HB := Aside0.mk (HB.out.trans (hb.mono HB.out.size))
  clear hb
  have ct := toHarmonicS_any A0 c0 n l0 w5 (Kd.C_below Hhr.out HB.out) Hhc.out Hhl.out
  go_wp2_with fail
  refine ct.mono ?_
  rintro e w6 ⟨v_, By, rfl, ho, hlen, hf, hb⟩
  clear ct
  replace Hs := Aside0.mk (Hs.out.below hb)
  replace Hx := Aside0.mk (Hx.out.below hb)
  replace Hg := Aside0.mk (Hg.out.below hb)
  have S6 := Aside0.mk hb.size
  replace HB := Aside0.mk (HB.out.trans (hb.mono HB.out.size))
  clear hb
  have Hy := Aside0.mk (RowR.new ho)
  have Ly := Aside0.mk hlen
  have Fy := Aside0.mk hf
  obtain ⟨Ay, cy, rfl⟩ := Hy.out.slice
  rw [Ly.out] at Hy ⊢
  clear ho hlen hf
  have ct := eqHarmonicS_any Ax cx Bx Ay cy By n w6 (by have q := Hx.out.reads.2.2; rw [Lx.out] at q; exact q) (by have q := Hy.out.reads.2.2; rw [Ly.out] at q; exact q) Hhl.out (fun j hj => (Fx.out j hj).trans (Fy.out j hj).symm)
  go_wp2_with fail
  refine ct.mono ?_
  rintro e w7 ⟨rfl, hb⟩
  clear ct
  replace Hs := Aside0.mk (Hs.out.below hb)
  replace Hx := Aside0.mk (Hx.out.below hb)
  replace Hg := Aside0.mk (Hg.out.below hb)
  replace Hy := Aside0.mk (Hy.out.below hb)
  have S7 := Aside0.mk hb.size
  replace HB := Aside0.mk (HB.out.trans (hb.mono HB.out.size))
  clear hb
  clear Hy Ly Fy
  have ct := markH_any (fun k => w2.heap.size ≤ k ∧ k < w3.heap.size) Ax cx Bx 1 n w w7 HB.out (Kd.R_lower Hx.out.out (by have q1 := S1.out; have q2 := S2.out; have q3 := S3.out; have q4 := S4.out; have q5 := S5.out; have q6 := S6.out; have q7 := S7.out; omega)) (by omega) (by have := Hhl.out; have := Hhm.out; omega)
  go_wp2_with fail
  refine ct.mono ?_
  rintro e w8 ⟨rfl, hB, hk⟩
  clear ct
  clear Hx Lx Fx
  replace Hs := Aside0.mk (Hs.out.kept hk (fun k h1 h2 h3 => by have q1 := S1.out; have q2 := S2.out; have q3 := S3.out; have q4 := S4.out; have q5 := S5.out; have q6 := S6.out; have q7 := S7.out; omega))
  replace Hg := Aside0.mk (Hg.out.kept hk (fun k h1 h2 h3 => by have q1 := S1.out; have q2 := S2.out; have q3 := S3.out; have q4 := S4.out; have q5 := S5.out; have q6 := S6.out; have q7 := S7.out; omega))
  have S8 := Aside0.mk hk.1
  replace HB := Aside0.mk hB
  clear hB hk
  have ct := eqF_any Ag cg Bg As cs Bs m w8 Hg.out.reads.2.2 Hs.out.reads.2.2 Lg.out Ls.out (by have := Hhl.out; have := Hhm.out; omega) (fun j hj => (Fg.out j hj).trans (Fs.out j hj).symm)
  go_wp2_with fail
  refine ct.mono ?_
  rintro e w9 ⟨rfl, hb⟩
  clear ct
  replace Hs := Aside0.mk (Hs.out.below hb)
  replace Hg := Aside0.mk (Hg.out.below hb)
  have S9 := Aside0.mk hb.size
  replace HB := Aside0.mk (HB.out.trans (hb.mono HB.out.size))
  clear hb
  have ct := markF_any (fun k => w3.heap.size ≤ k ∧ k < w4.heap.size) Ag cg Bg 1 m w w9 HB.out (Kd.R_lower Hg.out.out (by have q1 := S1.out; have q2 := S2.out; have q3 := S3.out; have q4 := S4.out; have q5 := S5.out; have q6 := S6.out; have q7 := S7.out; have q8 := S8.out; have q9 := S9.out; omega)) (by omega) (by have := Hhl.out; have := Hhm.out; omega)
  go_wp2_with fail
  refine ct.mono ?_
  rintro e w10 ⟨rfl, ⟨Mg, hg, hgl, hgf⟩, hB, hk⟩
  clear ct
  clear Hg Lg Fg
  have hG := RowR.mk (Kd.R_mono hg (fun k hk => (⟨by have := hk.1; have q1 := S1.out; have q2 := S2.out; have q3 := S3.out; have q4 := S4.out; have q5 := S5.out; have q6 := S6.out; have q7 := S7.out; have q8 := S8.out; have q9 := S9.out; omega, hk.2⟩ : w.heap.size ≤ k ∧ k < w4.heap.size)))
  replace Hs := Aside0.mk (Hs.out.kept hk (fun k h1 h2 h3 => by have q1 := S1.out; have q2 := S2.out; have q3 := S3.out; have q4 := S4.out; have q5 := S5.out; have q6 := S6.out; have q7 := S7.out; have q8 := S8.out; have q9 := S9.out; omega))
  have S10 := Aside0.mk hk.1
  replace HB := Aside0.mk hB
  clear hB hk
  have Hg := Aside0.mk hG
  have Lg := Aside0.mk hgl
  have Fg := Aside0.mk hgf
  clear hg hgl hgf hG
  have ct := heldF_any Ag cg Mg 1 m w10 (by have q := Hg.out.reads.2.2; rw [Lg.out] at q; exact q) Fg.out (by omega) (by have := Hhl.out; have := Hhm.out; omega)
  go_wp2_with fail
  refine ct.mono ?_
  rintro e w11 ⟨rfl, hb⟩
  clear ct
  replace Hs := Aside0.mk (Hs.out.below hb)
  replace Hg := Aside0.mk (Hg.out.below hb)
  have S11 := Aside0.mk hb.size
  replace HB := Aside0.mk (HB.out.trans (hb.mono HB.out.size))
  clear hb
  have ct := toHarmonicS_any A0 c0 n l0 w11 (Kd.C_below Hhr.out HB.out) Hhc.out Hhl.out
  go_wp2_with fail
  refine ct.mono ?_
  rintro e w12 ⟨v_, Bz, rfl, ho, hlen, hf, hb⟩
  clear ct
  replace Hs := Aside0.mk (Hs.out.below hb)
  replace Hg := Aside0.mk (Hg.out.below hb)
  have S12 := Aside0.mk hb.size
  replace HB := Aside0.mk (HB.out.trans (hb.mono HB.out.size))
  clear hb
  have Hz := Aside0.mk (RowR.new ho)
  have Lz := Aside0.mk hlen
  have Fz := Aside0.mk hf
  obtain ⟨Az, cz, rfl⟩ := Hz.out.slice
  rw [Lz.out] at Hz ⊢
  clear ho hlen hf
  have ct := Hyg.out w12 Az cz Bz (by have q := Hz.out.reads.2.2; rw [Lz.out] at q; exact q) Fz.out
  go_wp2_with fail
  refine ct.mono ?_
  rintro e w13 ⟨v_, rfl, ⟨Bh, ho, hlen, hf⟩, hb⟩
  clear ct
  replace Hs := Aside0.mk (Hs.out.below hb)
  replace Hg := Aside0.mk (Hg.out.below hb)
  replace Hz := Aside0.mk (Hz.out.below hb)
  have S13 := Aside0.mk hb.size
  replace HB := Aside0.mk (HB.out.trans (hb.mono HB.out.size))
  clear hb
  have Hh := Aside0.mk (RowR.new ho)
  have Lh := Aside0.mk hlen
  have Fh := Aside0.mk hf
  obtain ⟨Ah, ch, rfl⟩ := Hh.out.slice
  rw [Lh.out] at Hh ⊢
  clear ho hlen hf
  clear Hz Lz Fz
  have ct := eqF_any Ah ch Bh As cs Bs m w13 Hh.out.reads.2.2 Hs.out.reads.2.2 Lh.out Ls.out (by have := Hhl.out; have := Hhm.out; omega) (fun j hj => (Fh.out j hj).trans (Fs.out j hj).symm)
  go_wp2_with fail
  refine ct.mono ?_
  rintro e w14 ⟨rfl, hb⟩
  clear ct
  replace Hs := Aside0.mk (Hs.out.below hb)
  replace Hg := Aside0.mk (Hg.out.below hb)
  replace Hh := Aside0.mk (Hh.out.below hb)
  have S14 := Aside0.mk hb.size
  replace HB := Aside0.mk (HB.out.trans (hb.mono HB.out.size))
  clear hb
  have ct := heldF_any Ag cg Mg 1 m w14 (by have q := Hg.out.reads.2.2; rw [Lg.out] at q; exact q) Fg.out (by omega) (by have := Hhl.out; have := Hhm.out; omega)
  go_wp2_with fail
  refine ct.mono ?_
  rintro e w15 ⟨rfl, hb⟩
  clear ct
  replace Hs := Aside0.mk (Hs.out.below hb)
  replace Hg := Aside0.mk (Hg.out.below hb)
  replace Hh := Aside0.mk (Hh.out.below hb)
  have S15 := Aside0.mk hb.size
  replace HB := Aside0.mk (HB.out.trans (hb.mono HB.out.size))
  clear hb
  go_wp2
  go_ret
  exact ⟨rfl, HB.out⟩
set_option maxHeartbeats 8000000 in
theorem row_TideDay (mean : Nat) (A0 : Option Addr) (c0 : Nat) (l0 : List H4) (mins : Int) (w : World) (hc : l0.length ≤ c0) (hr : kh.C w A0 l0.length l0) {P Q : Prop} (_ : P) (_ : Q) :
    Calls Try.prog 12 #[.float .f64 mean, .slice A0 l0.length c0, .int .i64 mins] w fun e w' => e = .returned (.bool true) ∧ Below w.heap.size w w' := by
  have hn9 : l0.length ≤ 9223372036854775807 := hr.2.1
  by_cases hl : l0.length ≤ 1048576
  · exact law_TideDay mean A0 c0 l0.length l0 mins (tdOk l0.length mins) (tdLen l0.length mins) (fun i => vlS mean (fun j => eh l0 j) i l0.length) w hr hc hl (tdLen_le _ _)
      (fun W A c l q1 q2 => tide_spec_all mean A c l0.length mins l (fun j => eh l0 j) W q1 hl q2) (fun W A c l q1 q2 => tide_impl_all mean A c l0.length mins l (fun j => eh l0 j) W q1 hl q2)
  · clear hr hc
    generalize l0.length = n at *
    have cz := szHarmonicS_no A0 n c0 1048576 w (by omega) (by omega) (by omega) (by omega)
    clear hl
    go_enter Try.func12, Try.ntmps12
    go_wp2_with fail
    refine cz.mono ?_
    rintro e w0 ⟨rfl, rfl⟩
    go_wp2
    go_ret
    exact ⟨rfl, Below.refl _ _⟩
end Go.Proofs.Ytphfmcdkldcmiaa.Fl
