import Derived.WalkKit
import Derived.Orders
import Derived.KernelRfl
import Derived.Deep.Draws
import Derived.Test.YtfbokdbaondjdaaProg
import Derived.Test.YtfbokdbaondjdaaBFnDuties0
/- A region that draws its order, of whose operations all but the last only read, reckon, call or make memory: what each yields is told once, whatever the order. -/
namespace Go.Proofs.Ytfbokdbaondjdaa.Rg
open Go Go.RowKit

section
variable {P : Program} {ops : Array Oper} {Q : Exit → Act → World → Prop} {md : Region.Mode}

/-- How many have not come up. -/
def left (listed : Array Bool) : Nat := listed.toList.countP (fun b => !b)
theorem left_set {listed : Array Bool} {i : Nat} (h : listed.getD i true = false) : left listed = left (listed.setIfInBounds i true) + 1 := by
  have hi : i < listed.size := by
    rcases Nat.lt_or_ge i listed.size with h' | h'
    · exact h'
    · simp [Array.getD, Nat.not_lt.2 h'] at h
  have hv : listed[i] = false := by simpa [Array.getD, hi] using h
  unfold left
  rw [Array.toList_setIfInBounds]
  have hl : i < listed.toList.length := by simpa using hi
  have hv' : listed.toList[i] = false := by simpa using hv
  have key : ∀ (l : List Bool) (i : Nat) (hl : i < l.length), l[i] = false → l.countP (fun b => !b) = (l.set i true).countP (fun b => !b) + 1 := by
    intro l
    induction l with
    | nil => intro i hl; simp at hl
    | cons b l ih =>
      intro i hl hv
      cases i with
      | zero =>
        obtain rfl : b = false := by simpa using hv
        simp
      | succ i =>
        have := ih i (by simpa using hl) (by simpa using hv)
        cases b <;> simp [this]
  exact key _ i hl hv'
theorem left_zero {listed : Array Bool} (h : left listed = 0) : Region.ready md ops listed = [] := by
  have hall : ∀ i, listed.getD i true = true := by
    intro i
    cases hb : listed.getD i true with
    | true => rfl
    | false => have := left_set hb; omega
  unfold Region.ready
  rw [List.filter_eq_nil_iff]
  intro i _
  simp [hall]

theorem wpAny_inv {I : Array Bool → Act → World → Prop}
    (step : ∀ listed a w, I listed a w → ∀ i ∈ Region.ready md ops listed, wpOp P ops Q i (I (listed.setIfInBounds i true)) a w)
    (done : ∀ listed a w, I listed a w → Region.ready md ops listed = [] → Q .normal a w) :
    ∀ (fuel : Nat) (listed : Array Bool) (a : Act) (w : World), listed.size = ops.size → left listed ≤ fuel → I listed a w → wpAny P md ops Q fuel listed a w := by
  intro fuel
  induction fuel with
  | zero =>
    intro listed a w hs hl hI
    have hr := left_zero (md := md) (ops := ops) (Nat.le_zero.1 hl)
    exact ⟨hr, done _ _ _ hI hr⟩
  | succ fuel ih =>
    intro listed a w hs hl hI
    refine ⟨fun hr => done _ _ _ hI hr, fun i hi => ?_⟩
    have h1 := (mem_ready.1 hi).1
    have h2 := left_set h1
    exact wpOp_mono (fun a' w' h' => ih _ a' w' (by simpa using hs) (by omega) h') (step _ _ _ hI i hi)

/-- The frame with these slots filled. -/
def fill (a : Act) (ds : List Tmp) (vs : List Value) : Act := { a with tmps := (ds.zip vs).foldl (fun t x => t.setIfInBounds x.1 x.2) a.tmps }
theorem fill_set {a : Act} : ∀ {ds : List Tmp} {vs : List Value} {i : Nat} {d : Tmp} {v : Value}, ds.Nodup → vs.length = ds.length → ds[i]? = some d → (fill a ds vs).put (some d) v = fill a ds (vs.set i v) := by
  have comm : ∀ (l : List (Tmp × Value)) (t : Array Value) (d : Tmp) (v : Value), (∀ x ∈ l, x.1 ≠ d) → (l.foldl (fun t x => t.setIfInBounds x.1 x.2) t).setIfInBounds d v = l.foldl (fun t x => t.setIfInBounds x.1 x.2) (t.setIfInBounds d v) := by
    intro l
    induction l with
    | nil => intro t d v _; rfl
    | cons x l ih =>
      intro t d v h
      simp only [List.foldl_cons]
      rw [ih _ _ _ (fun y hy => h y (List.mem_cons_of_mem _ hy)), Array.setIfInBounds_comm _ _ (h x List.mem_cons_self)]
  intro ds vs i d v hnd hl hd
  unfold fill Act.put
  simp only
  congr 1
  revert vs i a
  induction ds with
  | nil => intro a vs i hl hd; simp at hd
  | cons d0 ds ih =>
    intro a vs i hl hd
    cases vs with
    | nil => simp at hl
    | cons v0 vs =>
      obtain ⟨hn0, hn⟩ := List.nodup_cons.1 hnd
      cases i with
      | zero =>
        obtain rfl : d0 = d := by simpa using hd
        simp only [List.zip_cons_cons, List.foldl_cons, List.set_cons_zero]
        rw [comm]
        · simp [Array.setIfInBounds_setIfInBounds]
        · intro x hx he
          exact hn0 (he ▸ (List.of_mem_zip hx).1)
      | succ i =>
        simp only [List.zip_cons_cons, List.foldl_cons, List.set_cons_succ]
        exact ih (a := { a with tmps := a.tmps.setIfInBounds d0 v0 }) hn (by simpa using hl) (by simpa using hd)


end

/-! ### The same, told along the list of the operations -/
section
variable {P : Program} {ops : Array Oper} {Q : Exit → Act → World → Prop}
def predAt (Vs : List (Value → World → Prop)) (j : Nat) : Value → World → Prop := Vs.getD j (fun _ _ => True)
/-- The facts of these numbers. -/
def Known (Vs : List (Value → World → Prop)) (vs : List Value) (w : World) : List Nat → Prop
  | [] => True
  | j :: js => predAt Vs j (vs.getD j undef) w ∧ Known Vs vs w js
theorem known_of {Vs : List (Value → World → Prop)} {vs : List Value} {w : World} {l : List Nat} (h : ∀ j ∈ l, predAt Vs j (vs.getD j undef) w) : Known Vs vs w l := by
  induction l with
  | nil => trivial
  | cons j js ih => exact ⟨h j List.mem_cons_self, ih (fun k hk => h k (List.mem_cons_of_mem _ hk))⟩
/-- The numbers that an operation waits for. -/
def deps (o : Oper) : List Nat := (o.after.toList.filter fun e => Region.binds .any e).map (·.on)
/-- A goal that no tactic looks into. -/
structure Still (p : Prop) : Prop where mk :: (out : p)

/-- The same of an operation that is not guarded. -/
def PlainOk (P : Program) (Q : Exit → Act → World → Prop) (a0 : Act) (W : World) (ds : List Tmp) (Vs : List (Value → World → Prop)) (i : Nat) (o : Oper) : Prop :=
  ∀ vs : List Value, vs.length = ds.length → ∀ w, Below W.heap.size W w → Known Vs vs w (deps o) →
    ∀ K : Act → World → Prop, (∀ v w', Below w.heap.size w w' → predAt Vs i v w' → K ((fill a0 ds vs).put o.dst v) w') → Still (o.wp P (fill a0 ds vs) w K Q)
def seqFrom : Nat → List Tmp → List Nat
  | _, [] => []
  | k, _ :: r => k :: seqFrom (k + 1) r
theorem mem_seqFrom : ∀ {ds : List Tmp} {k j : Nat}, j ∈ seqFrom k ds → k ≤ j ∧ j < k + ds.length := by
  intro ds
  induction ds with
  | nil => intro k j h; cases h
  | cons d r ih =>
    intro k j h
    rcases List.mem_cons.1 h with rfl | h
    · simp
    · have := ih h
      simp only [List.length_cons]
      omega

def StableAll : List (Value → World → Prop) → Prop
  | [] => True
  | V :: r => (∀ v w w', V v w → Below w.heap.size w w' → V v w') ∧ StableAll r
theorem stable_at {Vs : List (Value → World → Prop)} (h : StableAll Vs) : ∀ i v w w', predAt Vs i v w → Below w.heap.size w w' → predAt Vs i v w' := by
  induction Vs with
  | nil => intro i v w w' _ _; simp [predAt]
  | cons V r ih =>
    intro i v w w' hv hb
    cases i with
    | zero => exact h.1 v w w' hv hb
    | succ i => exact ih h.2 i v w w' hv hb

end
theorem len1 {vs : List Value} (h : vs.length = 1) : ∃ v0, vs = [v0] := by
  match vs, h with
  | [v0], _ => exact ⟨v0, rfl⟩
theorem len2 {vs : List Value} (h : vs.length = 2) : ∃ v0 v1, vs = [v0, v1] := by
  match vs, h with
  | v :: r, h =>
    obtain ⟨v0, rfl⟩ := len1 (vs := r) (by simpa using h)
    exact ⟨v, v0, rfl⟩
theorem len3 {vs : List Value} (h : vs.length = 3) : ∃ v0 v1 v2, vs = [v0, v1, v2] := by
  match vs, h with
  | v :: r, h =>
    obtain ⟨v0, v1, rfl⟩ := len2 (vs := r) (by simpa using h)
    exact ⟨v, v0, v1, rfl⟩
theorem len4 {vs : List Value} (h : vs.length = 4) : ∃ v0 v1 v2 v3, vs = [v0, v1, v2, v3] := by
  match vs, h with
  | v :: r, h =>
    obtain ⟨v0, v1, v2, rfl⟩ := len3 (vs := r) (by simpa using h)
    exact ⟨v, v0, v1, v2, rfl⟩
theorem len5 {vs : List Value} (h : vs.length = 5) : ∃ v0 v1 v2 v3 v4, vs = [v0, v1, v2, v3, v4] := by
  match vs, h with
  | v :: r, h =>
    obtain ⟨v0, v1, v2, v3, rfl⟩ := len4 (vs := r) (by simpa using h)
    exact ⟨v, v0, v1, v2, v3, rfl⟩
theorem len6 {vs : List Value} (h : vs.length = 6) : ∃ v0 v1 v2 v3 v4 v5, vs = [v0, v1, v2, v3, v4, v5] := by
  match vs, h with
  | v :: r, h =>
    obtain ⟨v0, v1, v2, v3, v4, rfl⟩ := len5 (vs := r) (by simpa using h)
    exact ⟨v, v0, v1, v2, v3, v4, rfl⟩
theorem len7 {vs : List Value} (h : vs.length = 7) : ∃ v0 v1 v2 v3 v4 v5 v6, vs = [v0, v1, v2, v3, v4, v5, v6] := by
  match vs, h with
  | v :: r, h =>
    obtain ⟨v0, v1, v2, v3, v4, v5, rfl⟩ := len6 (vs := r) (by simpa using h)
    exact ⟨v, v0, v1, v2, v3, v4, v5, rfl⟩
theorem len8 {vs : List Value} (h : vs.length = 8) : ∃ v0 v1 v2 v3 v4 v5 v6 v7, vs = [v0, v1, v2, v3, v4, v5, v6, v7] := by
  match vs, h with
  | v :: r, h =>
    obtain ⟨v0, v1, v2, v3, v4, v5, v6, rfl⟩ := len7 (vs := r) (by simpa using h)
    exact ⟨v, v0, v1, v2, v3, v4, v5, v6, rfl⟩
theorem len9 {vs : List Value} (h : vs.length = 9) : ∃ v0 v1 v2 v3 v4 v5 v6 v7 v8, vs = [v0, v1, v2, v3, v4, v5, v6, v7, v8] := by
  match vs, h with
  | v :: r, h =>
    obtain ⟨v0, v1, v2, v3, v4, v5, v6, v7, rfl⟩ := len8 (vs := r) (by simpa using h)
    exact ⟨v, v0, v1, v2, v3, v4, v5, v6, v7, rfl⟩
theorem len10 {vs : List Value} (h : vs.length = 10) : ∃ v0 v1 v2 v3 v4 v5 v6 v7 v8 v9, vs = [v0, v1, v2, v3, v4, v5, v6, v7, v8, v9] := by
  match vs, h with
  | v :: r, h =>
    obtain ⟨v0, v1, v2, v3, v4, v5, v6, v7, v8, rfl⟩ := len9 (vs := r) (by simpa using h)
    exact ⟨v, v0, v1, v2, v3, v4, v5, v6, v7, v8, rfl⟩
theorem len11 {vs : List Value} (h : vs.length = 11) : ∃ v0 v1 v2 v3 v4 v5 v6 v7 v8 v9 v10, vs = [v0, v1, v2, v3, v4, v5, v6, v7, v8, v9, v10] := by
  match vs, h with
  | v :: r, h =>
    obtain ⟨v0, v1, v2, v3, v4, v5, v6, v7, v8, v9, rfl⟩ := len10 (vs := r) (by simpa using h)
    exact ⟨v, v0, v1, v2, v3, v4, v5, v6, v7, v8, v9, rfl⟩
theorem len12 {vs : List Value} (h : vs.length = 12) : ∃ v0 v1 v2 v3 v4 v5 v6 v7 v8 v9 v10 v11, vs = [v0, v1, v2, v3, v4, v5, v6, v7, v8, v9, v10, v11] := by
  match vs, h with
  | v :: r, h =>
    obtain ⟨v0, v1, v2, v3, v4, v5, v6, v7, v8, v9, v10, rfl⟩ := len11 (vs := r) (by simpa using h)
    exact ⟨v, v0, v1, v2, v3, v4, v5, v6, v7, v8, v9, v10, rfl⟩
theorem len13 {vs : List Value} (h : vs.length = 13) : ∃ v0 v1 v2 v3 v4 v5 v6 v7 v8 v9 v10 v11 v12, vs = [v0, v1, v2, v3, v4, v5, v6, v7, v8, v9, v10, v11, v12] := by
  match vs, h with
  | v :: r, h =>
    obtain ⟨v0, v1, v2, v3, v4, v5, v6, v7, v8, v9, v10, v11, rfl⟩ := len12 (vs := r) (by simpa using h)
    exact ⟨v, v0, v1, v2, v3, v4, v5, v6, v7, v8, v9, v10, v11, rfl⟩
theorem len14 {vs : List Value} (h : vs.length = 14) : ∃ v0 v1 v2 v3 v4 v5 v6 v7 v8 v9 v10 v11 v12 v13, vs = [v0, v1, v2, v3, v4, v5, v6, v7, v8, v9, v10, v11, v12, v13] := by
  match vs, h with
  | v :: r, h =>
    obtain ⟨v0, v1, v2, v3, v4, v5, v6, v7, v8, v9, v10, v11, v12, rfl⟩ := len13 (vs := r) (by simpa using h)
    exact ⟨v, v0, v1, v2, v3, v4, v5, v6, v7, v8, v9, v10, v11, v12, rfl⟩
theorem len15 {vs : List Value} (h : vs.length = 15) : ∃ v0 v1 v2 v3 v4 v5 v6 v7 v8 v9 v10 v11 v12 v13 v14, vs = [v0, v1, v2, v3, v4, v5, v6, v7, v8, v9, v10, v11, v12, v13, v14] := by
  match vs, h with
  | v :: r, h =>
    obtain ⟨v0, v1, v2, v3, v4, v5, v6, v7, v8, v9, v10, v11, v12, v13, rfl⟩ := len14 (vs := r) (by simpa using h)
    exact ⟨v, v0, v1, v2, v3, v4, v5, v6, v7, v8, v9, v10, v11, v12, v13, rfl⟩
theorem len16 {vs : List Value} (h : vs.length = 16) : ∃ v0 v1 v2 v3 v4 v5 v6 v7 v8 v9 v10 v11 v12 v13 v14 v15, vs = [v0, v1, v2, v3, v4, v5, v6, v7, v8, v9, v10, v11, v12, v13, v14, v15] := by
  match vs, h with
  | v :: r, h =>
    obtain ⟨v0, v1, v2, v3, v4, v5, v6, v7, v8, v9, v10, v11, v12, v13, v14, rfl⟩ := len15 (vs := r) (by simpa using h)
    exact ⟨v, v0, v1, v2, v3, v4, v5, v6, v7, v8, v9, v10, v11, v12, v13, v14, rfl⟩
theorem len17 {vs : List Value} (h : vs.length = 17) : ∃ v0 v1 v2 v3 v4 v5 v6 v7 v8 v9 v10 v11 v12 v13 v14 v15 v16, vs = [v0, v1, v2, v3, v4, v5, v6, v7, v8, v9, v10, v11, v12, v13, v14, v15, v16] := by
  match vs, h with
  | v :: r, h =>
    obtain ⟨v0, v1, v2, v3, v4, v5, v6, v7, v8, v9, v10, v11, v12, v13, v14, v15, rfl⟩ := len16 (vs := r) (by simpa using h)
    exact ⟨v, v0, v1, v2, v3, v4, v5, v6, v7, v8, v9, v10, v11, v12, v13, v14, v15, rfl⟩
theorem len18 {vs : List Value} (h : vs.length = 18) : ∃ v0 v1 v2 v3 v4 v5 v6 v7 v8 v9 v10 v11 v12 v13 v14 v15 v16 v17, vs = [v0, v1, v2, v3, v4, v5, v6, v7, v8, v9, v10, v11, v12, v13, v14, v15, v16, v17] := by
  match vs, h with
  | v :: r, h =>
    obtain ⟨v0, v1, v2, v3, v4, v5, v6, v7, v8, v9, v10, v11, v12, v13, v14, v15, v16, rfl⟩ := len17 (vs := r) (by simpa using h)
    exact ⟨v, v0, v1, v2, v3, v4, v5, v6, v7, v8, v9, v10, v11, v12, v13, v14, v15, v16, rfl⟩
theorem len19 {vs : List Value} (h : vs.length = 19) : ∃ v0 v1 v2 v3 v4 v5 v6 v7 v8 v9 v10 v11 v12 v13 v14 v15 v16 v17 v18, vs = [v0, v1, v2, v3, v4, v5, v6, v7, v8, v9, v10, v11, v12, v13, v14, v15, v16, v17, v18] := by
  match vs, h with
  | v :: r, h =>
    obtain ⟨v0, v1, v2, v3, v4, v5, v6, v7, v8, v9, v10, v11, v12, v13, v14, v15, v16, v17, rfl⟩ := len18 (vs := r) (by simpa using h)
    exact ⟨v, v0, v1, v2, v3, v4, v5, v6, v7, v8, v9, v10, v11, v12, v13, v14, v15, v16, v17, rfl⟩
theorem len20 {vs : List Value} (h : vs.length = 20) : ∃ v0 v1 v2 v3 v4 v5 v6 v7 v8 v9 v10 v11 v12 v13 v14 v15 v16 v17 v18 v19, vs = [v0, v1, v2, v3, v4, v5, v6, v7, v8, v9, v10, v11, v12, v13, v14, v15, v16, v17, v18, v19] := by
  match vs, h with
  | v :: r, h =>
    obtain ⟨v0, v1, v2, v3, v4, v5, v6, v7, v8, v9, v10, v11, v12, v13, v14, v15, v16, v17, v18, rfl⟩ := len19 (vs := r) (by simpa using h)
    exact ⟨v, v0, v1, v2, v3, v4, v5, v6, v7, v8, v9, v10, v11, v12, v13, v14, v15, v16, v17, v18, rfl⟩
theorem len21 {vs : List Value} (h : vs.length = 21) : ∃ v0 v1 v2 v3 v4 v5 v6 v7 v8 v9 v10 v11 v12 v13 v14 v15 v16 v17 v18 v19 v20, vs = [v0, v1, v2, v3, v4, v5, v6, v7, v8, v9, v10, v11, v12, v13, v14, v15, v16, v17, v18, v19, v20] := by
  match vs, h with
  | v :: r, h =>
    obtain ⟨v0, v1, v2, v3, v4, v5, v6, v7, v8, v9, v10, v11, v12, v13, v14, v15, v16, v17, v18, v19, rfl⟩ := len20 (vs := r) (by simpa using h)
    exact ⟨v, v0, v1, v2, v3, v4, v5, v6, v7, v8, v9, v10, v11, v12, v13, v14, v15, v16, v17, v18, v19, rfl⟩
theorem len22 {vs : List Value} (h : vs.length = 22) : ∃ v0 v1 v2 v3 v4 v5 v6 v7 v8 v9 v10 v11 v12 v13 v14 v15 v16 v17 v18 v19 v20 v21, vs = [v0, v1, v2, v3, v4, v5, v6, v7, v8, v9, v10, v11, v12, v13, v14, v15, v16, v17, v18, v19, v20, v21] := by
  match vs, h with
  | v :: r, h =>
    obtain ⟨v0, v1, v2, v3, v4, v5, v6, v7, v8, v9, v10, v11, v12, v13, v14, v15, v16, v17, v18, v19, v20, rfl⟩ := len21 (vs := r) (by simpa using h)
    exact ⟨v, v0, v1, v2, v3, v4, v5, v6, v7, v8, v9, v10, v11, v12, v13, v14, v15, v16, v17, v18, v19, v20, rfl⟩
theorem len23 {vs : List Value} (h : vs.length = 23) : ∃ v0 v1 v2 v3 v4 v5 v6 v7 v8 v9 v10 v11 v12 v13 v14 v15 v16 v17 v18 v19 v20 v21 v22, vs = [v0, v1, v2, v3, v4, v5, v6, v7, v8, v9, v10, v11, v12, v13, v14, v15, v16, v17, v18, v19, v20, v21, v22] := by
  match vs, h with
  | v :: r, h =>
    obtain ⟨v0, v1, v2, v3, v4, v5, v6, v7, v8, v9, v10, v11, v12, v13, v14, v15, v16, v17, v18, v19, v20, v21, rfl⟩ := len22 (vs := r) (by simpa using h)
    exact ⟨v, v0, v1, v2, v3, v4, v5, v6, v7, v8, v9, v10, v11, v12, v13, v14, v15, v16, v17, v18, v19, v20, v21, rfl⟩
theorem len24 {vs : List Value} (h : vs.length = 24) : ∃ v0 v1 v2 v3 v4 v5 v6 v7 v8 v9 v10 v11 v12 v13 v14 v15 v16 v17 v18 v19 v20 v21 v22 v23, vs = [v0, v1, v2, v3, v4, v5, v6, v7, v8, v9, v10, v11, v12, v13, v14, v15, v16, v17, v18, v19, v20, v21, v22, v23] := by
  match vs, h with
  | v :: r, h =>
    obtain ⟨v0, v1, v2, v3, v4, v5, v6, v7, v8, v9, v10, v11, v12, v13, v14, v15, v16, v17, v18, v19, v20, v21, v22, rfl⟩ := len23 (vs := r) (by simpa using h)
    exact ⟨v, v0, v1, v2, v3, v4, v5, v6, v7, v8, v9, v10, v11, v12, v13, v14, v15, v16, v17, v18, v19, v20, v21, v22, rfl⟩
theorem len25 {vs : List Value} (h : vs.length = 25) : ∃ v0 v1 v2 v3 v4 v5 v6 v7 v8 v9 v10 v11 v12 v13 v14 v15 v16 v17 v18 v19 v20 v21 v22 v23 v24, vs = [v0, v1, v2, v3, v4, v5, v6, v7, v8, v9, v10, v11, v12, v13, v14, v15, v16, v17, v18, v19, v20, v21, v22, v23, v24] := by
  match vs, h with
  | v :: r, h =>
    obtain ⟨v0, v1, v2, v3, v4, v5, v6, v7, v8, v9, v10, v11, v12, v13, v14, v15, v16, v17, v18, v19, v20, v21, v22, v23, rfl⟩ := len24 (vs := r) (by simpa using h)
    exact ⟨v, v0, v1, v2, v3, v4, v5, v6, v7, v8, v9, v10, v11, v12, v13, v14, v15, v16, v17, v18, v19, v20, v21, v22, v23, rfl⟩
theorem len26 {vs : List Value} (h : vs.length = 26) : ∃ v0 v1 v2 v3 v4 v5 v6 v7 v8 v9 v10 v11 v12 v13 v14 v15 v16 v17 v18 v19 v20 v21 v22 v23 v24 v25, vs = [v0, v1, v2, v3, v4, v5, v6, v7, v8, v9, v10, v11, v12, v13, v14, v15, v16, v17, v18, v19, v20, v21, v22, v23, v24, v25] := by
  match vs, h with
  | v :: r, h =>
    obtain ⟨v0, v1, v2, v3, v4, v5, v6, v7, v8, v9, v10, v11, v12, v13, v14, v15, v16, v17, v18, v19, v20, v21, v22, v23, v24, rfl⟩ := len25 (vs := r) (by simpa using h)
    exact ⟨v, v0, v1, v2, v3, v4, v5, v6, v7, v8, v9, v10, v11, v12, v13, v14, v15, v16, v17, v18, v19, v20, v21, v22, v23, v24, rfl⟩
end Go.Proofs.Ytfbokdbaondjdaa.Rg
/- A region that draws its order, all of whose operations only read, reckon, call or set slots: what each yields is told once; none has to be the last one. -/
namespace Go.Proofs.Ytfbokdbaondjdaa.Rg
open Go Go.RowKit
section
variable {P : Program} {ops : Array Oper} {Q : Exit → Act → World → Prop}
def plainE (ops : Array Oper) (ds : List Tmp) : Bool :=
  (ops.size == ds.length) && (List.range ds.length).all (fun i => match ops[i]? with | some o => (o.dst == ds[i]?) && o.after.all (fun e => !(Region.binds .any e) || decide (e.on < i)) | none => false) && decide ds.Nodup
theorem region_every {id : Nat} {a0 : Act} {w0 : World} (hm : P.follows .mixedOrders = true) (ds : List Tmp) (hds : plainE ops ds = true) (vs0 : List Value) (hvs0 : vs0.length = ds.length) (ha0 : fill a0 ds vs0 = a0)
    (V : Nat → Value → World → Prop) (hV : ∀ i v w w', V i v w → Below w.heap.size w w' → V i v w')
    (hstep : ∀ i, i < ds.length → ∀ oi, ops[i]? = some oi → ∀ vs, vs.length = ds.length → ∀ w, Below w0.drew.heap.size w0.drew w → (∀ e ∈ oi.after, Region.binds .any e = true → V e.on (vs.getD e.on undef) w) →
      ∀ K : Act → World → Prop, (∀ v w', Below w.heap.size w w' → V i v w' → K ((fill a0 ds vs).put oi.dst v) w') →
        if Region.wanted oi (yielded ops (fill a0 ds vs).tmps) = true then oi.wp P (fill a0 ds vs) w K Q else K ((fill a0 ds vs).put oi.dst undef) w)
    (hend : ∀ vs, vs.length = ds.length → ∀ w, Below w0.drew.heap.size w0.drew w → (∀ j, j < ds.length → V j (vs.getD j undef) w) → Q .normal (fill a0 ds vs) w) :
    (Code.region id ops true).wp P Q a0 w0 := by
  unfold plainE at hds
  simp only [Bool.and_eq_true, beq_iff_eq, decide_eq_true_eq] at hds
  obtain ⟨⟨hsz, hall⟩, hnd⟩ := hds
  refine wp_region_any hm ?_
  have hTF : ∀ (listed : Array Bool) (j : Nat), listed.getD j false = true → listed.getD j true = true := fun listed j h => by
    rcases Nat.lt_or_ge j listed.size with h' | h'
    · simpa [Array.getD, h'] using h
    · simp [Array.getD, Nat.not_lt.2 h'] at h
  refine wpAny_inv (I := fun listed a w => listed.size = ops.size ∧
      ∃ vs, vs.length = ds.length ∧ a = fill a0 ds vs ∧ Below w0.drew.heap.size w0.drew w ∧ ∀ j, j < ds.length → listed.getD j true = true → V j (vs.getD j undef) w) ?_ ?_ _ _ _ _ (by simp) ?_ ?_
  · intro listed a w hI i hi
    obtain ⟨hsl, hI⟩ := hI
    obtain ⟨hun, oi, hoi, haft⟩ := mem_ready.1 hi
    have hio : i < ops.size := (Array.getElem?_eq_some_iff.1 hoi).1
    unfold wpOp
    rw [hoi]
    simp only
    have hid : i < ds.length := by omega
    have h1 := List.all_eq_true.1 hall i (List.mem_range.2 hid)
    rw [hoi] at h1
    simp only [Bool.and_eq_true, beq_iff_eq] at h1
    obtain ⟨hdst, hon⟩ := h1
    obtain ⟨vs, hl, rfl, hb, hv⟩ := hI
    have hgo : ∀ a' w', (∃ v, a' = (fill a0 ds vs).put oi.dst v ∧ Below w.heap.size w w' ∧ V i v w') →
        (listed.setIfInBounds i true).size = ops.size ∧
          ∃ vs, vs.length = ds.length ∧ a' = fill a0 ds vs ∧ Below w0.drew.heap.size w0.drew w' ∧ ∀ j, j < ds.length → (listed.setIfInBounds i true).getD j true = true → V j (vs.getD j undef) w' := by
      rintro a' w' ⟨v, rfl, hbw, hvi⟩
      refine ⟨by simpa using hsl, ?_⟩
      have hdi : ds[i]? = some ds[i] := List.getElem?_eq_getElem hid
      rw [hdst, hdi, fill_set hnd hl hdi]
      refine ⟨_, by simpa using hl, rfl, hb.trans (hbw.mono hb.size), fun j hj hjl => ?_⟩
      by_cases hji : i = j
      · subst hji
        rw [List.getD_eq_getElem?_getD, List.getElem?_set_self (by omega)]
        exact hvi
      · rw [getD_set_ne true hji] at hjl
        have := hV j _ _ _ (hv j hj hjl) hbw
        rw [List.getD_eq_getElem?_getD, List.getElem?_set_ne hji, ← List.getD_eq_getElem?_getD]
        exact this
    have hs := hstep i hid oi hoi vs hl w hb (fun e he hbd => by
      have hlt : e.on < ds.length := by
        have := Array.all_eq_true_iff_forall_mem.1 hon e he
        rw [hbd] at this
        have : e.on < i := by simpa using this
        omega
      exact hv e.on hlt (hTF _ _ (haft e he hbd))) (fun a' w' => ∃ v, a' = (fill a0 ds vs).put oi.dst v ∧ Below w.heap.size w w' ∧ V i v w') (fun v w' hb hv => ⟨v, rfl, hb, hv⟩)
    by_cases hwt : Region.wanted oi (yielded ops (fill a0 ds vs).tmps) = true
    · rw [if_pos hwt] at hs ⊢
      exact .inl (Oper.wp_mono hgo hs)
    · rw [if_neg hwt] at hs ⊢
      exact hgo _ _ hs
  · intro listed a w hI hr
    obtain ⟨hsl, vs, hl, rfl, hb, hv⟩ := hI
    refine hend vs hl w hb fun m hm2 => hv m hm2 ?_
    -- the first that has not come up could come up
    refine Classical.byContradiction fun hn => ?_
    have hn' : listed.getD m true = false := by simpa using hn
    have hleast : ∀ m, m < ds.length → listed.getD m true = false → ∃ i, i < ds.length ∧ listed.getD i true = false ∧ ∀ j, j < i → listed.getD j true = true := by
      intro m
      induction m using Nat.strongRecOn with
      | _ m ih =>
        intro hm hmf
        by_cases hex : ∃ j, j < m ∧ listed.getD j true = false
        · obtain ⟨j, hj, hjf⟩ := hex
          exact ih j hj (by omega) hjf
        · refine ⟨m, hm, hmf, fun j hj => ?_⟩
          cases hb : listed.getD j true with
          | true => rfl
          | false => exact absurd ⟨j, hj, hb⟩ hex
    obtain ⟨i, hid, hif, hil⟩ := hleast _ hm2 hn'
    have hi : i < listed.size := by omega
    have hTF' : ∀ j, j < i → listed.getD j false = true := fun j hj => by
      have := hil j hj
      have hj' : j < listed.size := by omega
      simpa [Array.getD, hj'] using this
    have hio : i < ops.size := by omega
    have hmem : i ∈ Region.ready .any ops listed := by
      refine mem_ready.2 ⟨hif, ops[i], Array.getElem?_eq_getElem hio, fun e he hbd => hTF' e.on ?_⟩
      have h1 := List.all_eq_true.1 hall i (List.mem_range.2 hid)
      rw [Array.getElem?_eq_getElem hio] at h1
      simp only [Bool.and_eq_true] at h1
      have := Array.all_eq_true_iff_forall_mem.1 h1.2 e he
      rw [hbd] at this
      simpa using this
    rw [hr] at hmem
    cases hmem
  · unfold left
    exact Nat.le_trans List.countP_le_length (by simp)
  · refine ⟨by simp, ?_⟩
    have hf : ∀ j, j < ops.size → (Array.replicate ops.size false).getD j true = false := fun j hj => by simp [Array.getD, hj]
    refine ⟨vs0, hvs0, ha0.symm, Below.refl _ _, fun j hj hjl => ?_⟩
    rw [hf j (by omega)] at hjl
    cases hjl
def EndOk (Q : Exit → Act → World → Prop) (a0 : Act) (W : World) (ds : List Tmp) (Vs : List (Value → World → Prop)) : Prop :=
  ∀ vs : List Value, vs.length = ds.length → ∀ w, Below W.heap.size W w → Known Vs vs w (seqFrom 0 ds) → Q .normal (fill a0 ds vs) w
def StepsE (P : Program) (ops : Array Oper) (Q : Exit → Act → World → Prop) (a0 : Act) (W : World) (ds : List Tmp) (Vs : List (Value → World → Prop)) : Nat → List Oper → Prop
  | _, [] => True
  | i, o :: r => PlainOk P Q a0 W ds Vs i o ∧ StepsE P ops Q a0 W ds Vs (i + 1) r
theorem stepsE_at {a0 : Act} {W : World} {ds : List Tmp} {Vs : List (Value → World → Prop)} : ∀ {l : List Oper} {k : Nat}, StepsE P ops Q a0 W ds Vs k l →
    ∀ i o, l[i]? = some o → PlainOk P Q a0 W ds Vs (k + i) o := by
  intro l
  induction l with
  | nil => intro k _ i o h; simp at h
  | cons o0 r ih =>
    intro k h i o ho
    cases i with
    | zero =>
      obtain rfl : o0 = o := by simpa using ho
      exact h.1
    | succ i =>
      have := ih h.2 i o (by simpa using ho)
      rwa [show k + 1 + i = k + (i + 1) by omega] at this
theorem region_each {id : Nat} {l : List Oper} {a0 : Act} {w0 : World} (hm : P.follows .mixedOrders = true) (ds : List Tmp) (vs0 : List Value) (Vs : List (Value → World → Prop))
    (hds : plainE l.toArray ds = true) (hng : (l.all fun o => o.guard.isNone) = true) (hvs0 : vs0.length = ds.length) (ha0 : fill a0 ds vs0 = a0) (hV : StableAll Vs) (h : StepsE P l.toArray Q a0 w0.drew ds Vs 0 l) (he : EndOk Q a0 w0.drew ds Vs) : (Code.region id l.toArray true).wp P Q a0 w0 := by
  have h1 := stepsE_at h
  refine region_every hm ds hds vs0 hvs0 ha0 (predAt Vs) (stable_at hV) ?_ ?_
  · intro i hi oi hoi vs hl w hb hd K hK
    have hoi' : l[i]? = some oi := by simpa using hoi
    have := h1 i oi hoi'
    rw [Nat.zero_add] at this
    have hg : oi.guard = none := by
      have hmem : oi ∈ l := List.mem_of_getElem? hoi'
      have := List.all_eq_true.1 hng oi hmem
      simpa using this
    rw [if_pos (by simp [Region.wanted, hg])]
    refine (this vs hl w hb (known_of fun j hj => ?_) K hK).out
    obtain ⟨e, he, rfl⟩ := List.mem_map.1 hj
    obtain ⟨he1, he2⟩ := List.mem_filter.1 he
    exact hd e (by simpa using he1) he2
  · intro vs hl w hb hd
    exact he vs hl w hb (known_of fun j hj => hd j (by have := (mem_seqFrom hj).2; omega))
end
end Go.Proofs.Ytfbokdbaondjdaa.Rg
/- Duty of the program, in closed form, over what its parts answer. -/
namespace Go.Proofs.Ytfbokdbaondjdaa.Du
open Go Go.RowKit Go.Proofs.YtfbokdbaondjdaaW.PrintWords Go.Proofs.YtfbokdbaondjdaaW.PrintLast Go.Proofs.YtfbokdbaondjdaaW.PrintMore Go.Proofs.Ytfbokdbaondjdaa.Rg
set_option linter.unusedVariables false
set_option linter.unusedSimpArgs false
def dInt (m t : Bool) : Int := if (m && !t) = true then 2 else if (t && !m) = true then 1 else 0
theorem first_any (m t : Bool) (w : World) : Calls Try.prog 62 #[.bool m, .bool t] w fun e w' => e = .returned (.tuple #[.int .i64 (dInt m t), .bool (m != t)]) ∧ Below w.heap.size w w' := by
  cases m <;> cases t
  all_goals (go_enter Try.func62, Try.ntmps62; go_wp2; go_ret2; exact ⟨rfl, Below.refl _ _⟩)
def dutyG (s1 s2 cl bx : Bool) (dx : Int) (bs : Bool) (ds : Int) (ho one br : Bool) (dr : Int) (bd : Bool) (dd : Int) : Int :=
  if (s1 && s2) = true then (if cl = true then (if bx = true then dx else if bs = true then ds else if (ho && one) = true then 3 else if br = true then dr else if bd = true then dd else 3) else 0) else 4
def dutyF (s1 s2 cl x1 x2 ho r1 r2 : Bool) (sa sb da db : Int) : Int :=
  if (s1 && s2) = true then
    (if cl = true then
      (if (x1 != x2) = true then dInt x1 x2
       else if (decide (sa < sb) != decide (sb < sa)) = true then dInt (decide (sa < sb)) (decide (sb < sa))
       else if (ho && decide (sa = 1)) = true then 3
       else if (r1 != r2) = true then dInt r1 r2
       else if (decide (da < db) != decide (db < da)) = true then dInt (decide (da < db)) (decide (db < da))
       else 3)
     else 0)
  else 4
set_option maxHeartbeats 8000000 in
set_option maxRecDepth 100000 in
theorem duty_core (a0 a1 a2 a3 a4 a5 b0 b1 b2 b3 b4 b5 : Int) (s1 s2 cl x1 x2 ho r1 r2 bx bs br bd : Bool) (dx ds dr dd : Int) (w : World)
    (hS1 : ∀ W : World, Calls Try.prog 17 #[.agg #[.int .i64 a0, .int .i64 a1, .int .i64 a2, .int .i64 a3, .int .i64 a4, .int .i64 a5]] W fun e w' => e = .returned (.bool s1) ∧ Below W.heap.size W w')
    (hS2 : ∀ W : World, Calls Try.prog 17 #[.agg #[.int .i64 b0, .int .i64 b1, .int .i64 b2, .int .i64 b3, .int .i64 b4, .int .i64 b5]] W fun e w' => e = .returned (.bool s2) ∧ Below W.heap.size W w')
    (hC : ∀ W : World, Calls Try.prog 63 #[.agg #[.int .i64 a0, .int .i64 a1, .int .i64 a2, .int .i64 a3, .int .i64 a4, .int .i64 a5], .agg #[.int .i64 b0, .int .i64 b1, .int .i64 b2, .int .i64 b3, .int .i64 b4, .int .i64 b5]] W fun e w' => e = .returned (.bool cl) ∧ Below W.heap.size W w')
    (hX1 : ∀ W : World, Calls Try.prog 29 #[.agg #[.int .i64 a0, .int .i64 a1, .int .i64 a2, .int .i64 a3, .int .i64 a4, .int .i64 a5], .agg #[.int .i64 b0, .int .i64 b1, .int .i64 b2, .int .i64 b3, .int .i64 b4, .int .i64 b5]] W fun e w' => e = .returned (.bool x1) ∧ Below W.heap.size W w')
    (hX2 : ∀ W : World, Calls Try.prog 29 #[.agg #[.int .i64 b0, .int .i64 b1, .int .i64 b2, .int .i64 b3, .int .i64 b4, .int .i64 b5], .agg #[.int .i64 a0, .int .i64 a1, .int .i64 a2, .int .i64 a3, .int .i64 a4, .int .i64 a5]] W fun e w' => e = .returned (.bool x2) ∧ Below W.heap.size W w')
    (hH : ∀ W : World, Calls Try.prog 31 #[.agg #[.int .i64 a0, .int .i64 a1, .int .i64 a2, .int .i64 a3, .int .i64 a4, .int .i64 a5], .agg #[.int .i64 b0, .int .i64 b1, .int .i64 b2, .int .i64 b3, .int .i64 b4, .int .i64 b5]] W fun e w' => e = .returned (.bool ho) ∧ Below W.heap.size W w')
    (hR1 : ∀ W : World, Calls Try.prog 64 #[.agg #[.int .i64 a0, .int .i64 a1, .int .i64 a2, .int .i64 a3, .int .i64 a4, .int .i64 a5], .agg #[.int .i64 b0, .int .i64 b1, .int .i64 b2, .int .i64 b3, .int .i64 b4, .int .i64 b5]] W fun e w' => e = .returned (.bool r1) ∧ Below W.heap.size W w')
    (hR2 : ∀ W : World, Calls Try.prog 64 #[.agg #[.int .i64 b0, .int .i64 b1, .int .i64 b2, .int .i64 b3, .int .i64 b4, .int .i64 b5], .agg #[.int .i64 a0, .int .i64 a1, .int .i64 a2, .int .i64 a3, .int .i64 a4, .int .i64 a5]] W fun e w' => e = .returned (.bool r2) ∧ Below W.heap.size W w')
    (hFx : ∀ W : World, Calls Try.prog 62 #[.bool x1, .bool x2] W fun e w' => e = .returned (.tuple #[.int .i64 dx, .bool bx]) ∧ Below W.heap.size W w')
    (hFs : ∀ W : World, Calls Try.prog 62 #[.bool (decide (a4 < b4)), .bool (decide (b4 < a4))] W fun e w' => e = .returned (.tuple #[.int .i64 ds, .bool bs]) ∧ Below W.heap.size W w')
    (hFr : ∀ W : World, Calls Try.prog 62 #[.bool r1, .bool r2] W fun e w' => e = .returned (.tuple #[.int .i64 dr, .bool br]) ∧ Below W.heap.size W w')
    (hFd : ∀ W : World, Calls Try.prog 62 #[.bool (decide (a5 < b5)), .bool (decide (b5 < a5))] W fun e w' => e = .returned (.tuple #[.int .i64 dd, .bool bd]) ∧ Below W.heap.size W w') :
    Calls Try.prog 23 #[.agg #[.int .i64 a0, .int .i64 a1, .int .i64 a2, .int .i64 a3, .int .i64 a4, .int .i64 a5], .agg #[.int .i64 b0, .int .i64 b1, .int .i64 b2, .int .i64 b3, .int .i64 b4, .int .i64 b5]] w fun e w' => e = .returned (.int .i64 (dutyG s1 s2 cl bx dx bs ds ho (decide (a4 = 1)) br dr bd dd)) ∧ Below w.heap.size w w' := by
  have HS1 := Aside0.mk hS1
  have HS2 := Aside0.mk hS2
  have HC := Aside0.mk hC
  have HX1 := Aside0.mk hX1
  have HX2 := Aside0.mk hX2
  have HH := Aside0.mk hH
  have HR1 := Aside0.mk hR1
  have HR2 := Aside0.mk hR2
  have HFX := Aside0.mk hFx
  have HFS := Aside0.mk hFs
  have HFR := Aside0.mk hFr
  have HFD := Aside0.mk hFd
  clear hS1 hS2 hC hX1 hX2 hH hR1 hR2 hFx hFs hFr hFd
  have hb1 : Below w.heap.size w ((w.alloc (.cells #[.int .i64 a0, .int .i64 a1, .int .i64 a2, .int .i64 a3, .int .i64 a4, .int .i64 a5] 25)).alloc (.cells #[.int .i64 b0, .int .i64 b1, .int .i64 b2, .int .i64 b3, .int .i64 b4, .int .i64 b5] 25)) := ((Below.refl _ _).alloc (Nat.le_refl _) _).alloc (by simp) _
  have la : w.heap.size < ((w.alloc (.cells #[.int .i64 a0, .int .i64 a1, .int .i64 a2, .int .i64 a3, .int .i64 a4, .int .i64 a5] 25)).alloc (.cells #[.int .i64 b0, .int .i64 b1, .int .i64 b2, .int .i64 b3, .int .i64 b4, .int .i64 b5] 25)).heap.size := by simp; omega
  have lb : w.heap.size + 1 < ((w.alloc (.cells #[.int .i64 a0, .int .i64 a1, .int .i64 a2, .int .i64 a3, .int .i64 a4, .int .i64 a5] 25)).alloc (.cells #[.int .i64 b0, .int .i64 b1, .int .i64 b2, .int .i64 b3, .int .i64 b4, .int .i64 b5] 25)).heap.size := by simp
  have ca0 : ((w.alloc (.cells #[.int .i64 a0, .int .i64 a1, .int .i64 a2, .int .i64 a3, .int .i64 a4, .int .i64 a5] 25)).alloc (.cells #[.int .i64 b0, .int .i64 b1, .int .i64 b2, .int .i64 b3, .int .i64 b4, .int .i64 b5] 25)).cell? ⟨w.heap.size, 0, none⟩ = some (.int .i64 a0) := by go_simp
  have ca1 : ((w.alloc (.cells #[.int .i64 a0, .int .i64 a1, .int .i64 a2, .int .i64 a3, .int .i64 a4, .int .i64 a5] 25)).alloc (.cells #[.int .i64 b0, .int .i64 b1, .int .i64 b2, .int .i64 b3, .int .i64 b4, .int .i64 b5] 25)).cell? ⟨w.heap.size, 1, none⟩ = some (.int .i64 a1) := by go_simp
  have ca2 : ((w.alloc (.cells #[.int .i64 a0, .int .i64 a1, .int .i64 a2, .int .i64 a3, .int .i64 a4, .int .i64 a5] 25)).alloc (.cells #[.int .i64 b0, .int .i64 b1, .int .i64 b2, .int .i64 b3, .int .i64 b4, .int .i64 b5] 25)).cell? ⟨w.heap.size, 2, none⟩ = some (.int .i64 a2) := by go_simp
  have ca3 : ((w.alloc (.cells #[.int .i64 a0, .int .i64 a1, .int .i64 a2, .int .i64 a3, .int .i64 a4, .int .i64 a5] 25)).alloc (.cells #[.int .i64 b0, .int .i64 b1, .int .i64 b2, .int .i64 b3, .int .i64 b4, .int .i64 b5] 25)).cell? ⟨w.heap.size, 3, none⟩ = some (.int .i64 a3) := by go_simp
  have ca4 : ((w.alloc (.cells #[.int .i64 a0, .int .i64 a1, .int .i64 a2, .int .i64 a3, .int .i64 a4, .int .i64 a5] 25)).alloc (.cells #[.int .i64 b0, .int .i64 b1, .int .i64 b2, .int .i64 b3, .int .i64 b4, .int .i64 b5] 25)).cell? ⟨w.heap.size, 4, none⟩ = some (.int .i64 a4) := by go_simp
  have ca5 : ((w.alloc (.cells #[.int .i64 a0, .int .i64 a1, .int .i64 a2, .int .i64 a3, .int .i64 a4, .int .i64 a5] 25)).alloc (.cells #[.int .i64 b0, .int .i64 b1, .int .i64 b2, .int .i64 b3, .int .i64 b4, .int .i64 b5] 25)).cell? ⟨w.heap.size, 5, none⟩ = some (.int .i64 a5) := by go_simp
  have cb0 : ((w.alloc (.cells #[.int .i64 a0, .int .i64 a1, .int .i64 a2, .int .i64 a3, .int .i64 a4, .int .i64 a5] 25)).alloc (.cells #[.int .i64 b0, .int .i64 b1, .int .i64 b2, .int .i64 b3, .int .i64 b4, .int .i64 b5] 25)).cell? ⟨w.heap.size + 1, 0, none⟩ = some (.int .i64 b0) := by go_simp
  have cb1 : ((w.alloc (.cells #[.int .i64 a0, .int .i64 a1, .int .i64 a2, .int .i64 a3, .int .i64 a4, .int .i64 a5] 25)).alloc (.cells #[.int .i64 b0, .int .i64 b1, .int .i64 b2, .int .i64 b3, .int .i64 b4, .int .i64 b5] 25)).cell? ⟨w.heap.size + 1, 1, none⟩ = some (.int .i64 b1) := by go_simp
  have cb2 : ((w.alloc (.cells #[.int .i64 a0, .int .i64 a1, .int .i64 a2, .int .i64 a3, .int .i64 a4, .int .i64 a5] 25)).alloc (.cells #[.int .i64 b0, .int .i64 b1, .int .i64 b2, .int .i64 b3, .int .i64 b4, .int .i64 b5] 25)).cell? ⟨w.heap.size + 1, 2, none⟩ = some (.int .i64 b2) := by go_simp
  have cb3 : ((w.alloc (.cells #[.int .i64 a0, .int .i64 a1, .int .i64 a2, .int .i64 a3, .int .i64 a4, .int .i64 a5] 25)).alloc (.cells #[.int .i64 b0, .int .i64 b1, .int .i64 b2, .int .i64 b3, .int .i64 b4, .int .i64 b5] 25)).cell? ⟨w.heap.size + 1, 3, none⟩ = some (.int .i64 b3) := by go_simp
  have cb4 : ((w.alloc (.cells #[.int .i64 a0, .int .i64 a1, .int .i64 a2, .int .i64 a3, .int .i64 a4, .int .i64 a5] 25)).alloc (.cells #[.int .i64 b0, .int .i64 b1, .int .i64 b2, .int .i64 b3, .int .i64 b4, .int .i64 b5] 25)).cell? ⟨w.heap.size + 1, 4, none⟩ = some (.int .i64 b4) := by go_simp
  have cb5 : ((w.alloc (.cells #[.int .i64 a0, .int .i64 a1, .int .i64 a2, .int .i64 a3, .int .i64 a4, .int .i64 a5] 25)).alloc (.cells #[.int .i64 b0, .int .i64 b1, .int .i64 b2, .int .i64 b3, .int .i64 b4, .int .i64 b5] 25)).cell? ⟨w.heap.size + 1, 5, none⟩ = some (.int .i64 b5) := by go_simp
  go_enter Try.func23, Try.ntmps23
  go_upto_region 1 with fail
  generalize ((w.alloc (.cells #[.int .i64 a0, .int .i64 a1, .int .i64 a2, .int .i64 a3, .int .i64 a4, .int .i64 a5] 25)).alloc (.cells #[.int .i64 b0, .int .i64 b1, .int .i64 b2, .int .i64 b3, .int .i64 b4, .int .i64 b5] 25)) = W0 at hb1 la lb ca0 ca1 ca2 ca3 ca4 ca5 cb0 cb1 cb2 cb3 cb4 cb5 ⊢
  have CA0 := Aside0.mk ca0
  have CA1 := Aside0.mk ca1
  have CA2 := Aside0.mk ca2
  have CA3 := Aside0.mk ca3
  have CA4 := Aside0.mk ca4
  have CA5 := Aside0.mk ca5
  have CB0 := Aside0.mk cb0
  have CB1 := Aside0.mk cb1
  have CB2 := Aside0.mk cb2
  have CB3 := Aside0.mk cb3
  have CB4 := Aside0.mk cb4
  have CB5 := Aside0.mk cb5
  have LA := Aside0.mk la
  have LB := Aside0.mk lb
  have HB := Aside0.mk hb1
  clear ca0 ca1 ca2 ca3 ca4 ca5 cb0 cb1 cb2 cb3 cb4 cb5 la lb
  clear hb1
  have ca0 := CA0.out
  have ca1 := CA1.out
  have ca2 := CA2.out
  have ca3 := CA3.out
  have ca4 := CA4.out
  have ca5 := CA5.out
  have cb0 := CB0.out
  have cb1 := CB1.out
  have cb2 := CB2.out
  have cb3 := CB3.out
  have cb4 := CB4.out
  have cb5 := CB5.out
  have la := LA.out
  have lb := LB.out
  go_wp2_with fail
  refine (HS1.out _).mono ?_
  rintro e w1 ⟨rfl, hb⟩
  clear ca0 ca1 ca2 ca3 ca4 ca5 cb0 cb1 cb2 cb3 cb4 cb5 la lb
  replace CA0 := Aside0.mk ((hb.cell (p := ⟨w.heap.size, 0, none⟩) LA.out).trans CA0.out)
  replace CB0 := Aside0.mk ((hb.cell (p := ⟨w.heap.size + 1, 0, none⟩) LB.out).trans CB0.out)
  replace CA1 := Aside0.mk ((hb.cell (p := ⟨w.heap.size, 1, none⟩) LA.out).trans CA1.out)
  replace CB1 := Aside0.mk ((hb.cell (p := ⟨w.heap.size + 1, 1, none⟩) LB.out).trans CB1.out)
  replace CA2 := Aside0.mk ((hb.cell (p := ⟨w.heap.size, 2, none⟩) LA.out).trans CA2.out)
  replace CB2 := Aside0.mk ((hb.cell (p := ⟨w.heap.size + 1, 2, none⟩) LB.out).trans CB2.out)
  replace CA3 := Aside0.mk ((hb.cell (p := ⟨w.heap.size, 3, none⟩) LA.out).trans CA3.out)
  replace CB3 := Aside0.mk ((hb.cell (p := ⟨w.heap.size + 1, 3, none⟩) LB.out).trans CB3.out)
  replace CA4 := Aside0.mk ((hb.cell (p := ⟨w.heap.size, 4, none⟩) LA.out).trans CA4.out)
  replace CB4 := Aside0.mk ((hb.cell (p := ⟨w.heap.size + 1, 4, none⟩) LB.out).trans CB4.out)
  replace CA5 := Aside0.mk ((hb.cell (p := ⟨w.heap.size, 5, none⟩) LA.out).trans CA5.out)
  replace CB5 := Aside0.mk ((hb.cell (p := ⟨w.heap.size + 1, 5, none⟩) LB.out).trans CB5.out)
  replace LA := Aside0.mk (Nat.lt_of_lt_of_le LA.out hb.size)
  replace LB := Aside0.mk (Nat.lt_of_lt_of_le LB.out hb.size)
  replace HB := Aside0.mk (HB.out.trans (hb.mono HB.out.size))
  clear hb
  cases s1
  case false =>
    have ca0 := CA0.out
    have ca1 := CA1.out
    have ca2 := CA2.out
    have ca3 := CA3.out
    have ca4 := CA4.out
    have ca5 := CA5.out
    have cb0 := CB0.out
    have cb1 := CB1.out
    have cb2 := CB2.out
    have cb3 := CB3.out
    have cb4 := CB4.out
    have cb5 := CB5.out
    have la := LA.out
    have lb := LB.out
    go_wp2
    go_ret
    exact ⟨rfl, HB.out⟩
  case true =>
    have ca0 := CA0.out
    have ca1 := CA1.out
    have ca2 := CA2.out
    have ca3 := CA3.out
    have ca4 := CA4.out
    have ca5 := CA5.out
    have cb0 := CB0.out
    have cb1 := CB1.out
    have cb2 := CB2.out
    have cb3 := CB3.out
    have cb4 := CB4.out
    have cb5 := CB5.out
    have la := LA.out
    have lb := LB.out
    go_wp2_with fail
    refine (HS2.out _).mono ?_
    rintro e w2 ⟨rfl, hb⟩
    clear ca0 ca1 ca2 ca3 ca4 ca5 cb0 cb1 cb2 cb3 cb4 cb5 la lb
    replace CA0 := Aside0.mk ((hb.cell (p := ⟨w.heap.size, 0, none⟩) LA.out).trans CA0.out)
    replace CB0 := Aside0.mk ((hb.cell (p := ⟨w.heap.size + 1, 0, none⟩) LB.out).trans CB0.out)
    replace CA1 := Aside0.mk ((hb.cell (p := ⟨w.heap.size, 1, none⟩) LA.out).trans CA1.out)
    replace CB1 := Aside0.mk ((hb.cell (p := ⟨w.heap.size + 1, 1, none⟩) LB.out).trans CB1.out)
    replace CA2 := Aside0.mk ((hb.cell (p := ⟨w.heap.size, 2, none⟩) LA.out).trans CA2.out)
    replace CB2 := Aside0.mk ((hb.cell (p := ⟨w.heap.size + 1, 2, none⟩) LB.out).trans CB2.out)
    replace CA3 := Aside0.mk ((hb.cell (p := ⟨w.heap.size, 3, none⟩) LA.out).trans CA3.out)
    replace CB3 := Aside0.mk ((hb.cell (p := ⟨w.heap.size + 1, 3, none⟩) LB.out).trans CB3.out)
    replace CA4 := Aside0.mk ((hb.cell (p := ⟨w.heap.size, 4, none⟩) LA.out).trans CA4.out)
    replace CB4 := Aside0.mk ((hb.cell (p := ⟨w.heap.size + 1, 4, none⟩) LB.out).trans CB4.out)
    replace CA5 := Aside0.mk ((hb.cell (p := ⟨w.heap.size, 5, none⟩) LA.out).trans CA5.out)
    replace CB5 := Aside0.mk ((hb.cell (p := ⟨w.heap.size + 1, 5, none⟩) LB.out).trans CB5.out)
    replace LA := Aside0.mk (Nat.lt_of_lt_of_le LA.out hb.size)
    replace LB := Aside0.mk (Nat.lt_of_lt_of_le LB.out hb.size)
    replace HB := Aside0.mk (HB.out.trans (hb.mono HB.out.size))
    clear hb
    cases s2
    case false =>
      have ca0 := CA0.out
      have ca1 := CA1.out
      have ca2 := CA2.out
      have ca3 := CA3.out
      have ca4 := CA4.out
      have ca5 := CA5.out
      have cb0 := CB0.out
      have cb1 := CB1.out
      have cb2 := CB2.out
      have cb3 := CB3.out
      have cb4 := CB4.out
      have cb5 := CB5.out
      have la := LA.out
      have lb := LB.out
      go_wp2
      go_ret
      exact ⟨rfl, HB.out⟩
    case true =>
      have ca0 := CA0.out
      have ca1 := CA1.out
      have ca2 := CA2.out
      have ca3 := CA3.out
      have ca4 := CA4.out
      have ca5 := CA5.out
      have cb0 := CB0.out
      have cb1 := CB1.out
      have cb2 := CB2.out
      have cb3 := CB3.out
      have cb4 := CB4.out
      have cb5 := CB5.out
      have la := LA.out
      have lb := LB.out
      go_wp2_with fail
      refine (HC.out _).mono ?_
      rintro e w3 ⟨rfl, hb⟩
      clear ca0 ca1 ca2 ca3 ca4 ca5 cb0 cb1 cb2 cb3 cb4 cb5 la lb
      replace CA0 := Aside0.mk ((hb.cell (p := ⟨w.heap.size, 0, none⟩) LA.out).trans CA0.out)
      replace CB0 := Aside0.mk ((hb.cell (p := ⟨w.heap.size + 1, 0, none⟩) LB.out).trans CB0.out)
      replace CA1 := Aside0.mk ((hb.cell (p := ⟨w.heap.size, 1, none⟩) LA.out).trans CA1.out)
      replace CB1 := Aside0.mk ((hb.cell (p := ⟨w.heap.size + 1, 1, none⟩) LB.out).trans CB1.out)
      replace CA2 := Aside0.mk ((hb.cell (p := ⟨w.heap.size, 2, none⟩) LA.out).trans CA2.out)
      replace CB2 := Aside0.mk ((hb.cell (p := ⟨w.heap.size + 1, 2, none⟩) LB.out).trans CB2.out)
      replace CA3 := Aside0.mk ((hb.cell (p := ⟨w.heap.size, 3, none⟩) LA.out).trans CA3.out)
      replace CB3 := Aside0.mk ((hb.cell (p := ⟨w.heap.size + 1, 3, none⟩) LB.out).trans CB3.out)
      replace CA4 := Aside0.mk ((hb.cell (p := ⟨w.heap.size, 4, none⟩) LA.out).trans CA4.out)
      replace CB4 := Aside0.mk ((hb.cell (p := ⟨w.heap.size + 1, 4, none⟩) LB.out).trans CB4.out)
      replace CA5 := Aside0.mk ((hb.cell (p := ⟨w.heap.size, 5, none⟩) LA.out).trans CA5.out)
      replace CB5 := Aside0.mk ((hb.cell (p := ⟨w.heap.size + 1, 5, none⟩) LB.out).trans CB5.out)
      replace LA := Aside0.mk (Nat.lt_of_lt_of_le LA.out hb.size)
      replace LB := Aside0.mk (Nat.lt_of_lt_of_le LB.out hb.size)
      replace HB := Aside0.mk (HB.out.trans (hb.mono HB.out.size))
      clear hb
      cases cl
      case false =>
        have ca0 := CA0.out
        have ca1 := CA1.out
        have ca2 := CA2.out
        have ca3 := CA3.out
        have ca4 := CA4.out
        have ca5 := CA5.out
        have cb0 := CB0.out
        have cb1 := CB1.out
        have cb2 := CB2.out
        have cb3 := CB3.out
        have cb4 := CB4.out
        have cb5 := CB5.out
        have la := LA.out
        have lb := LB.out
        go_wp2
        go_ret
        exact ⟨rfl, HB.out⟩
      case true =>
        have ca0 := CA0.out
        have ca1 := CA1.out
        have ca2 := CA2.out
        have ca3 := CA3.out
        have ca4 := CA4.out
        have ca5 := CA5.out
        have cb0 := CB0.out
        have cb1 := CB1.out
        have cb2 := CB2.out
        have cb3 := CB3.out
        have cb4 := CB4.out
        have cb5 := CB5.out
        have la := LA.out
        have lb := LB.out
        go_upto_region 6 with fail
        clear ca0 ca1 ca2 ca3 ca4 ca5 cb0 cb1 cb2 cb3 cb4 cb5 la lb
        refine region_each (by kernel_rfl) [29, 30, 31, 32, 33, 34, 35, 36, 28, 37, 38, 6, 7] [undef, undef, undef, undef, undef, undef, undef, undef, undef, undef, undef, undef, undef] [fun v _ => v = .func (.func 62) #[] #[], fun v _ => v = .agg #[.int .i64 a0, .int .i64 a1, .int .i64 a2, .int .i64 a3, .int .i64 a4, .int .i64 a5], fun v _ => v = .agg #[.int .i64 b0, .int .i64 b1, .int .i64 b2, .int .i64 b3, .int .i64 b4, .int .i64 b5], fun v _ => v = .bool x1, fun v _ => v = .agg #[.int .i64 b0, .int .i64 b1, .int .i64 b2, .int .i64 b3, .int .i64 b4, .int .i64 b5], fun v _ => v = .agg #[.int .i64 a0, .int .i64 a1, .int .i64 a2, .int .i64 a3, .int .i64 a4, .int .i64 a5], fun v _ => v = .bool x2, fun v _ => v = .tuple #[.int .i64 dx, .bool bx], fun v _ => v = .tuple #[.int .i64 dx, .bool bx], fun v _ => v = .int .i64 dx, fun v _ => v = .bool bx, fun v _ => v = .int .i64 dx, fun v _ => v = .bool bx] (by kernel_rfl) (by kernel_rfl) rfl (by kernel_rfl)
          ⟨fun _ _ _ h _ => h, fun _ _ _ h _ => h, fun _ _ _ h _ => h, fun _ _ _ h _ => h, fun _ _ _ h _ => h, fun _ _ _ h _ => h, fun _ _ _ h _ => h, fun _ _ _ h _ => h, fun _ _ _ h _ => h, fun _ _ _ h _ => h, fun _ _ _ h _ => h, fun _ _ _ h _ => h, fun _ _ _ h _ => h, trivial⟩ ⟨?_, ?_, ?_, ?_, ?_, ?_, ?_, ?_, ?_, ?_, ?_, ?_, ?_, trivial⟩ ?_
        · intro vs hl
          obtain ⟨v0, v1, v2, v3, v4, v5, v6, v7, v8, v9, v10, v11, v12, rfl⟩ := len13 hl
          clear hl
          intro w1 hb hd K hK
          simp only [fill, Act.put, List.zip_cons_cons, List.zip_nil_right, List.zip_nil_left, List.foldl_cons, List.foldl_nil, List.setIfInBounds_toArray, List.set_cons_zero, List.set_cons_succ] at hK ⊢
          refine ⟨?_⟩
          go_simp
          exact hK _ _ (Below.refl _ _) rfl
        · intro vs hl
          obtain ⟨v0, v1, v2, v3, v4, v5, v6, v7, v8, v9, v10, v11, v12, rfl⟩ := len13 hl
          clear hl
          intro w1 hb hd K hK
          have e0 : w1.cell? ⟨w.heap.size, 0, none⟩ = some (.int .i64 a0) := (hb.cell (p := ⟨w.heap.size, 0, none⟩) LA.out).trans CA0.out
          have e1 : w1.cell? ⟨w.heap.size, 1, none⟩ = some (.int .i64 a1) := (hb.cell (p := ⟨w.heap.size, 1, none⟩) LA.out).trans CA1.out
          have e2 : w1.cell? ⟨w.heap.size, 2, none⟩ = some (.int .i64 a2) := (hb.cell (p := ⟨w.heap.size, 2, none⟩) LA.out).trans CA2.out
          have e3 : w1.cell? ⟨w.heap.size, 3, none⟩ = some (.int .i64 a3) := (hb.cell (p := ⟨w.heap.size, 3, none⟩) LA.out).trans CA3.out
          have e4 : w1.cell? ⟨w.heap.size, 4, none⟩ = some (.int .i64 a4) := (hb.cell (p := ⟨w.heap.size, 4, none⟩) LA.out).trans CA4.out
          have e5 : w1.cell? ⟨w.heap.size, 5, none⟩ = some (.int .i64 a5) := (hb.cell (p := ⟨w.heap.size, 5, none⟩) LA.out).trans CA5.out
          simp only [fill, Act.put, List.zip_cons_cons, List.zip_nil_right, List.zip_nil_left, List.foldl_cons, List.foldl_nil, List.setIfInBounds_toArray, List.set_cons_zero, List.set_cons_succ] at hK ⊢
          refine ⟨?_⟩
          go_simp
          exact hK _ _ (Below.refl _ _) rfl
        · intro vs hl
          obtain ⟨v0, v1, v2, v3, v4, v5, v6, v7, v8, v9, v10, v11, v12, rfl⟩ := len13 hl
          clear hl
          intro w1 hb hd K hK
          have e0 : w1.cell? ⟨w.heap.size + 1, 0, none⟩ = some (.int .i64 b0) := (hb.cell (p := ⟨w.heap.size + 1, 0, none⟩) LB.out).trans CB0.out
          have e1 : w1.cell? ⟨w.heap.size + 1, 1, none⟩ = some (.int .i64 b1) := (hb.cell (p := ⟨w.heap.size + 1, 1, none⟩) LB.out).trans CB1.out
          have e2 : w1.cell? ⟨w.heap.size + 1, 2, none⟩ = some (.int .i64 b2) := (hb.cell (p := ⟨w.heap.size + 1, 2, none⟩) LB.out).trans CB2.out
          have e3 : w1.cell? ⟨w.heap.size + 1, 3, none⟩ = some (.int .i64 b3) := (hb.cell (p := ⟨w.heap.size + 1, 3, none⟩) LB.out).trans CB3.out
          have e4 : w1.cell? ⟨w.heap.size + 1, 4, none⟩ = some (.int .i64 b4) := (hb.cell (p := ⟨w.heap.size + 1, 4, none⟩) LB.out).trans CB4.out
          have e5 : w1.cell? ⟨w.heap.size + 1, 5, none⟩ = some (.int .i64 b5) := (hb.cell (p := ⟨w.heap.size + 1, 5, none⟩) LB.out).trans CB5.out
          simp only [fill, Act.put, List.zip_cons_cons, List.zip_nil_right, List.zip_nil_left, List.foldl_cons, List.foldl_nil, List.setIfInBounds_toArray, List.set_cons_zero, List.set_cons_succ] at hK ⊢
          refine ⟨?_⟩
          go_simp
          exact hK _ _ (Below.refl _ _) rfl
        · intro vs hl
          obtain ⟨v0, v1, v2, v3, v4, v5, v6, v7, v8, v9, v10, v11, v12, rfl⟩ := len13 hl
          clear hl
          intro w1 hb hd K hK
          obtain ⟨h1, h2, _⟩ := hd
          obtain rfl : v1 = .agg #[.int .i64 a0, .int .i64 a1, .int .i64 a2, .int .i64 a3, .int .i64 a4, .int .i64 a5] := h1
          obtain rfl : v2 = .agg #[.int .i64 b0, .int .i64 b1, .int .i64 b2, .int .i64 b3, .int .i64 b4, .int .i64 b5] := h2
          simp only [fill, Act.put, List.zip_cons_cons, List.zip_nil_right, List.zip_nil_left, List.foldl_cons, List.foldl_nil, List.setIfInBounds_toArray, List.set_cons_zero, List.set_cons_succ] at hK ⊢
          refine ⟨?_⟩
          go_simp
          refine (HX1.out _).mono ?_
          rintro e w2 ⟨rfl, hb2⟩
          exact hK _ _ hb2 rfl
        · intro vs hl
          obtain ⟨v0, v1, v2, v3, v4, v5, v6, v7, v8, v9, v10, v11, v12, rfl⟩ := len13 hl
          clear hl
          intro w1 hb hd K hK
          have e0 : w1.cell? ⟨w.heap.size + 1, 0, none⟩ = some (.int .i64 b0) := (hb.cell (p := ⟨w.heap.size + 1, 0, none⟩) LB.out).trans CB0.out
          have e1 : w1.cell? ⟨w.heap.size + 1, 1, none⟩ = some (.int .i64 b1) := (hb.cell (p := ⟨w.heap.size + 1, 1, none⟩) LB.out).trans CB1.out
          have e2 : w1.cell? ⟨w.heap.size + 1, 2, none⟩ = some (.int .i64 b2) := (hb.cell (p := ⟨w.heap.size + 1, 2, none⟩) LB.out).trans CB2.out
          have e3 : w1.cell? ⟨w.heap.size + 1, 3, none⟩ = some (.int .i64 b3) := (hb.cell (p := ⟨w.heap.size + 1, 3, none⟩) LB.out).trans CB3.out
          have e4 : w1.cell? ⟨w.heap.size + 1, 4, none⟩ = some (.int .i64 b4) := (hb.cell (p := ⟨w.heap.size + 1, 4, none⟩) LB.out).trans CB4.out
          have e5 : w1.cell? ⟨w.heap.size + 1, 5, none⟩ = some (.int .i64 b5) := (hb.cell (p := ⟨w.heap.size + 1, 5, none⟩) LB.out).trans CB5.out
          simp only [fill, Act.put, List.zip_cons_cons, List.zip_nil_right, List.zip_nil_left, List.foldl_cons, List.foldl_nil, List.setIfInBounds_toArray, List.set_cons_zero, List.set_cons_succ] at hK ⊢
          refine ⟨?_⟩
          go_simp
          exact hK _ _ (Below.refl _ _) rfl
        · intro vs hl
          obtain ⟨v0, v1, v2, v3, v4, v5, v6, v7, v8, v9, v10, v11, v12, rfl⟩ := len13 hl
          clear hl
          intro w1 hb hd K hK
          have e0 : w1.cell? ⟨w.heap.size, 0, none⟩ = some (.int .i64 a0) := (hb.cell (p := ⟨w.heap.size, 0, none⟩) LA.out).trans CA0.out
          have e1 : w1.cell? ⟨w.heap.size, 1, none⟩ = some (.int .i64 a1) := (hb.cell (p := ⟨w.heap.size, 1, none⟩) LA.out).trans CA1.out
          have e2 : w1.cell? ⟨w.heap.size, 2, none⟩ = some (.int .i64 a2) := (hb.cell (p := ⟨w.heap.size, 2, none⟩) LA.out).trans CA2.out
          have e3 : w1.cell? ⟨w.heap.size, 3, none⟩ = some (.int .i64 a3) := (hb.cell (p := ⟨w.heap.size, 3, none⟩) LA.out).trans CA3.out
          have e4 : w1.cell? ⟨w.heap.size, 4, none⟩ = some (.int .i64 a4) := (hb.cell (p := ⟨w.heap.size, 4, none⟩) LA.out).trans CA4.out
          have e5 : w1.cell? ⟨w.heap.size, 5, none⟩ = some (.int .i64 a5) := (hb.cell (p := ⟨w.heap.size, 5, none⟩) LA.out).trans CA5.out
          simp only [fill, Act.put, List.zip_cons_cons, List.zip_nil_right, List.zip_nil_left, List.foldl_cons, List.foldl_nil, List.setIfInBounds_toArray, List.set_cons_zero, List.set_cons_succ] at hK ⊢
          refine ⟨?_⟩
          go_simp
          exact hK _ _ (Below.refl _ _) rfl
        · intro vs hl
          obtain ⟨v0, v1, v2, v3, v4, v5, v6, v7, v8, v9, v10, v11, v12, rfl⟩ := len13 hl
          clear hl
          intro w1 hb hd K hK
          obtain ⟨h4, h5, _⟩ := hd
          obtain rfl : v4 = .agg #[.int .i64 b0, .int .i64 b1, .int .i64 b2, .int .i64 b3, .int .i64 b4, .int .i64 b5] := h4
          obtain rfl : v5 = .agg #[.int .i64 a0, .int .i64 a1, .int .i64 a2, .int .i64 a3, .int .i64 a4, .int .i64 a5] := h5
          simp only [fill, Act.put, List.zip_cons_cons, List.zip_nil_right, List.zip_nil_left, List.foldl_cons, List.foldl_nil, List.setIfInBounds_toArray, List.set_cons_zero, List.set_cons_succ] at hK ⊢
          refine ⟨?_⟩
          go_simp
          refine (HX2.out _).mono ?_
          rintro e w2 ⟨rfl, hb2⟩
          exact hK _ _ hb2 rfl
        · intro vs hl
          obtain ⟨v0, v1, v2, v3, v4, v5, v6, v7, v8, v9, v10, v11, v12, rfl⟩ := len13 hl
          clear hl
          intro w1 hb hd K hK
          obtain ⟨h0, h3, h6, _⟩ := hd
          obtain rfl : v0 = .func (.func 62) #[] #[] := h0
          obtain rfl : v3 = .bool x1 := h3
          obtain rfl : v6 = .bool x2 := h6
          simp only [fill, Act.put, List.zip_cons_cons, List.zip_nil_right, List.zip_nil_left, List.foldl_cons, List.foldl_nil, List.setIfInBounds_toArray, List.set_cons_zero, List.set_cons_succ] at hK ⊢
          refine ⟨?_⟩
          go_simp
          refine (HFX.out _).mono ?_
          rintro e w2 ⟨rfl, hb2⟩
          exact hK _ _ hb2 rfl
        · intro vs hl
          obtain ⟨v0, v1, v2, v3, v4, v5, v6, v7, v8, v9, v10, v11, v12, rfl⟩ := len13 hl
          clear hl
          intro w1 hb hd K hK
          obtain ⟨h7, _⟩ := hd
          obtain rfl : v7 = .tuple #[.int .i64 dx, .bool bx] := h7
          simp only [fill, Act.put, List.zip_cons_cons, List.zip_nil_right, List.zip_nil_left, List.foldl_cons, List.foldl_nil, List.setIfInBounds_toArray, List.set_cons_zero, List.set_cons_succ] at hK ⊢
          refine ⟨?_⟩
          go_simp
          exact hK _ _ (Below.refl _ _) rfl
        · intro vs hl
          obtain ⟨v0, v1, v2, v3, v4, v5, v6, v7, v8, v9, v10, v11, v12, rfl⟩ := len13 hl
          clear hl
          intro w1 hb hd K hK
          obtain ⟨h8, _⟩ := hd
          obtain rfl : v8 = .tuple #[.int .i64 dx, .bool bx] := h8
          simp only [fill, Act.put, List.zip_cons_cons, List.zip_nil_right, List.zip_nil_left, List.foldl_cons, List.foldl_nil, List.setIfInBounds_toArray, List.set_cons_zero, List.set_cons_succ] at hK ⊢
          refine ⟨?_⟩
          go_simp
          exact hK _ _ (Below.refl _ _) rfl
        · intro vs hl
          obtain ⟨v0, v1, v2, v3, v4, v5, v6, v7, v8, v9, v10, v11, v12, rfl⟩ := len13 hl
          clear hl
          intro w1 hb hd K hK
          obtain ⟨h8, _⟩ := hd
          obtain rfl : v8 = .tuple #[.int .i64 dx, .bool bx] := h8
          simp only [fill, Act.put, List.zip_cons_cons, List.zip_nil_right, List.zip_nil_left, List.foldl_cons, List.foldl_nil, List.setIfInBounds_toArray, List.set_cons_zero, List.set_cons_succ] at hK ⊢
          refine ⟨?_⟩
          go_simp
          exact hK _ _ (Below.refl _ _) rfl
        · intro vs hl
          obtain ⟨v0, v1, v2, v3, v4, v5, v6, v7, v8, v9, v10, v11, v12, rfl⟩ := len13 hl
          clear hl
          intro w1 hb hd K hK
          obtain ⟨h9, _⟩ := hd
          obtain rfl : v9 = .int .i64 dx := h9
          simp only [fill, Act.put, List.zip_cons_cons, List.zip_nil_right, List.zip_nil_left, List.foldl_cons, List.foldl_nil, List.setIfInBounds_toArray, List.set_cons_zero, List.set_cons_succ] at hK ⊢
          refine ⟨?_⟩
          go_simp
          exact hK _ _ (Below.refl _ _) rfl
        · intro vs hl
          obtain ⟨v0, v1, v2, v3, v4, v5, v6, v7, v8, v9, v10, v11, v12, rfl⟩ := len13 hl
          clear hl
          intro w1 hb hd K hK
          obtain ⟨h10, _⟩ := hd
          obtain rfl : v10 = .bool bx := h10
          simp only [fill, Act.put, List.zip_cons_cons, List.zip_nil_right, List.zip_nil_left, List.foldl_cons, List.foldl_nil, List.setIfInBounds_toArray, List.set_cons_zero, List.set_cons_succ] at hK ⊢
          refine ⟨?_⟩
          go_simp
          exact hK _ _ (Below.refl _ _) rfl
        · intro vs hl
          obtain ⟨v0, v1, v2, v3, v4, v5, v6, v7, v8, v9, v10, v11, v12, rfl⟩ := len13 hl
          clear hl
          intro w4 hb hd
          obtain ⟨h0, h1, h2, h3, h4, h5, h6, h7, h8, h9, h10, h11, h12, _⟩ := hd
          obtain rfl : v0 = .func (.func 62) #[] #[] := h0
          obtain rfl : v1 = .agg #[.int .i64 a0, .int .i64 a1, .int .i64 a2, .int .i64 a3, .int .i64 a4, .int .i64 a5] := h1
          obtain rfl : v2 = .agg #[.int .i64 b0, .int .i64 b1, .int .i64 b2, .int .i64 b3, .int .i64 b4, .int .i64 b5] := h2
          obtain rfl : v3 = .bool x1 := h3
          obtain rfl : v4 = .agg #[.int .i64 b0, .int .i64 b1, .int .i64 b2, .int .i64 b3, .int .i64 b4, .int .i64 b5] := h4
          obtain rfl : v5 = .agg #[.int .i64 a0, .int .i64 a1, .int .i64 a2, .int .i64 a3, .int .i64 a4, .int .i64 a5] := h5
          obtain rfl : v6 = .bool x2 := h6
          obtain rfl : v7 = .tuple #[.int .i64 dx, .bool bx] := h7
          obtain rfl : v8 = .tuple #[.int .i64 dx, .bool bx] := h8
          obtain rfl : v9 = .int .i64 dx := h9
          obtain rfl : v10 = .bool bx := h10
          obtain rfl : v11 = .int .i64 dx := h11
          obtain rfl : v12 = .bool bx := h12
          simp only [fill, Act.put, List.zip_cons_cons, List.zip_nil_right, List.zip_nil_left, List.foldl_cons, List.foldl_nil, List.setIfInBounds_toArray, List.set_cons_zero, List.set_cons_succ]
          have hbz : Below w.heap.size w w4 := Below.trans (show Below w.heap.size w w3.drew from pw_below_drewN HB.out 1) (hb.mono HB.out.size)
          replace CA0 := Aside0.mk ((hb.cell (p := ⟨w.heap.size, 0, none⟩) LA.out).trans CA0.out)
          replace CB0 := Aside0.mk ((hb.cell (p := ⟨w.heap.size + 1, 0, none⟩) LB.out).trans CB0.out)
          replace CA1 := Aside0.mk ((hb.cell (p := ⟨w.heap.size, 1, none⟩) LA.out).trans CA1.out)
          replace CB1 := Aside0.mk ((hb.cell (p := ⟨w.heap.size + 1, 1, none⟩) LB.out).trans CB1.out)
          replace CA2 := Aside0.mk ((hb.cell (p := ⟨w.heap.size, 2, none⟩) LA.out).trans CA2.out)
          replace CB2 := Aside0.mk ((hb.cell (p := ⟨w.heap.size + 1, 2, none⟩) LB.out).trans CB2.out)
          replace CA3 := Aside0.mk ((hb.cell (p := ⟨w.heap.size, 3, none⟩) LA.out).trans CA3.out)
          replace CB3 := Aside0.mk ((hb.cell (p := ⟨w.heap.size + 1, 3, none⟩) LB.out).trans CB3.out)
          replace CA4 := Aside0.mk ((hb.cell (p := ⟨w.heap.size, 4, none⟩) LA.out).trans CA4.out)
          replace CB4 := Aside0.mk ((hb.cell (p := ⟨w.heap.size + 1, 4, none⟩) LB.out).trans CB4.out)
          replace CA5 := Aside0.mk ((hb.cell (p := ⟨w.heap.size, 5, none⟩) LA.out).trans CA5.out)
          replace CB5 := Aside0.mk ((hb.cell (p := ⟨w.heap.size + 1, 5, none⟩) LB.out).trans CB5.out)
          replace LA := Aside0.mk (Nat.lt_of_lt_of_le LA.out hb.size)
          replace LB := Aside0.mk (Nat.lt_of_lt_of_le LB.out hb.size)
          replace HB := Aside0.mk hbz
          clear hb hbz
          cases bx
          case true =>
            go_wp2
            go_ret
            exact ⟨rfl, HB.out⟩
          case false =>
            have ca0 := CA0.out
            have ca1 := CA1.out
            have ca2 := CA2.out
            have ca3 := CA3.out
            have ca4 := CA4.out
            have ca5 := CA5.out
            have cb0 := CB0.out
            have cb1 := CB1.out
            have cb2 := CB2.out
            have cb3 := CB3.out
            have cb4 := CB4.out
            have cb5 := CB5.out
            have la := LA.out
            have lb := LB.out
            go_wp2_with fail
            refine (HFS.out _).mono ?_
            rintro e w5 ⟨rfl, hb⟩
            clear ca0 ca1 ca2 ca3 ca4 ca5 cb0 cb1 cb2 cb3 cb4 cb5 la lb
            replace CA0 := Aside0.mk ((hb.cell (p := ⟨w.heap.size, 0, none⟩) LA.out).trans CA0.out)
            replace CB0 := Aside0.mk ((hb.cell (p := ⟨w.heap.size + 1, 0, none⟩) LB.out).trans CB0.out)
            replace CA1 := Aside0.mk ((hb.cell (p := ⟨w.heap.size, 1, none⟩) LA.out).trans CA1.out)
            replace CB1 := Aside0.mk ((hb.cell (p := ⟨w.heap.size + 1, 1, none⟩) LB.out).trans CB1.out)
            replace CA2 := Aside0.mk ((hb.cell (p := ⟨w.heap.size, 2, none⟩) LA.out).trans CA2.out)
            replace CB2 := Aside0.mk ((hb.cell (p := ⟨w.heap.size + 1, 2, none⟩) LB.out).trans CB2.out)
            replace CA3 := Aside0.mk ((hb.cell (p := ⟨w.heap.size, 3, none⟩) LA.out).trans CA3.out)
            replace CB3 := Aside0.mk ((hb.cell (p := ⟨w.heap.size + 1, 3, none⟩) LB.out).trans CB3.out)
            replace CA4 := Aside0.mk ((hb.cell (p := ⟨w.heap.size, 4, none⟩) LA.out).trans CA4.out)
            replace CB4 := Aside0.mk ((hb.cell (p := ⟨w.heap.size + 1, 4, none⟩) LB.out).trans CB4.out)
            replace CA5 := Aside0.mk ((hb.cell (p := ⟨w.heap.size, 5, none⟩) LA.out).trans CA5.out)
            replace CB5 := Aside0.mk ((hb.cell (p := ⟨w.heap.size + 1, 5, none⟩) LB.out).trans CB5.out)
            replace LA := Aside0.mk (Nat.lt_of_lt_of_le LA.out hb.size)
            replace LB := Aside0.mk (Nat.lt_of_lt_of_le LB.out hb.size)
            replace HB := Aside0.mk (HB.out.trans (hb.mono HB.out.size))
            clear hb
            cases bs
            case true =>
              go_wp2
              go_ret
              exact ⟨rfl, HB.out⟩
            case false =>
              have ca0 := CA0.out
              have ca1 := CA1.out
              have ca2 := CA2.out
              have ca3 := CA3.out
              have ca4 := CA4.out
              have ca5 := CA5.out
              have cb0 := CB0.out
              have cb1 := CB1.out
              have cb2 := CB2.out
              have cb3 := CB3.out
              have cb4 := CB4.out
              have cb5 := CB5.out
              have la := LA.out
              have lb := LB.out
              go_wp2_with fail
              refine (HH.out _).mono ?_
              rintro e w6 ⟨rfl, hb⟩
              clear ca0 ca1 ca2 ca3 ca4 ca5 cb0 cb1 cb2 cb3 cb4 cb5 la lb
              replace CA0 := Aside0.mk ((hb.cell (p := ⟨w.heap.size, 0, none⟩) LA.out).trans CA0.out)
              replace CB0 := Aside0.mk ((hb.cell (p := ⟨w.heap.size + 1, 0, none⟩) LB.out).trans CB0.out)
              replace CA1 := Aside0.mk ((hb.cell (p := ⟨w.heap.size, 1, none⟩) LA.out).trans CA1.out)
              replace CB1 := Aside0.mk ((hb.cell (p := ⟨w.heap.size + 1, 1, none⟩) LB.out).trans CB1.out)
              replace CA2 := Aside0.mk ((hb.cell (p := ⟨w.heap.size, 2, none⟩) LA.out).trans CA2.out)
              replace CB2 := Aside0.mk ((hb.cell (p := ⟨w.heap.size + 1, 2, none⟩) LB.out).trans CB2.out)
              replace CA3 := Aside0.mk ((hb.cell (p := ⟨w.heap.size, 3, none⟩) LA.out).trans CA3.out)
              replace CB3 := Aside0.mk ((hb.cell (p := ⟨w.heap.size + 1, 3, none⟩) LB.out).trans CB3.out)
              replace CA4 := Aside0.mk ((hb.cell (p := ⟨w.heap.size, 4, none⟩) LA.out).trans CA4.out)
              replace CB4 := Aside0.mk ((hb.cell (p := ⟨w.heap.size + 1, 4, none⟩) LB.out).trans CB4.out)
              replace CA5 := Aside0.mk ((hb.cell (p := ⟨w.heap.size, 5, none⟩) LA.out).trans CA5.out)
              replace CB5 := Aside0.mk ((hb.cell (p := ⟨w.heap.size + 1, 5, none⟩) LB.out).trans CB5.out)
              replace LA := Aside0.mk (Nat.lt_of_lt_of_le LA.out hb.size)
              replace LB := Aside0.mk (Nat.lt_of_lt_of_le LB.out hb.size)
              replace HB := Aside0.mk (HB.out.trans (hb.mono HB.out.size))
              clear hb
              cases ho
              case false =>
                have ca0 := CA0.out
                have ca1 := CA1.out
                have ca2 := CA2.out
                have ca3 := CA3.out
                have ca4 := CA4.out
                have ca5 := CA5.out
                have cb0 := CB0.out
                have cb1 := CB1.out
                have cb2 := CB2.out
                have cb3 := CB3.out
                have cb4 := CB4.out
                have cb5 := CB5.out
                have la := LA.out
                have lb := LB.out
                go_upto_region 14 with fail
                clear ca0 ca1 ca2 ca3 ca4 ca5 cb0 cb1 cb2 cb3 cb4 cb5 la lb
                refine region_each (by kernel_rfl) [67, 68, 69, 70, 71, 72, 73, 74, 66, 75, 76, 10, 11] [undef, undef, undef, undef, undef, undef, undef, undef, undef, undef, undef, undef, undef] [fun v _ => v = .func (.func 62) #[] #[], fun v _ => v = .agg #[.int .i64 a0, .int .i64 a1, .int .i64 a2, .int .i64 a3, .int .i64 a4, .int .i64 a5], fun v _ => v = .agg #[.int .i64 b0, .int .i64 b1, .int .i64 b2, .int .i64 b3, .int .i64 b4, .int .i64 b5], fun v _ => v = .bool r1, fun v _ => v = .agg #[.int .i64 b0, .int .i64 b1, .int .i64 b2, .int .i64 b3, .int .i64 b4, .int .i64 b5], fun v _ => v = .agg #[.int .i64 a0, .int .i64 a1, .int .i64 a2, .int .i64 a3, .int .i64 a4, .int .i64 a5], fun v _ => v = .bool r2, fun v _ => v = .tuple #[.int .i64 dr, .bool br], fun v _ => v = .tuple #[.int .i64 dr, .bool br], fun v _ => v = .int .i64 dr, fun v _ => v = .bool br, fun v _ => v = .int .i64 dr, fun v _ => v = .bool br] (by kernel_rfl) (by kernel_rfl) rfl (by kernel_rfl)
                  ⟨fun _ _ _ h _ => h, fun _ _ _ h _ => h, fun _ _ _ h _ => h, fun _ _ _ h _ => h, fun _ _ _ h _ => h, fun _ _ _ h _ => h, fun _ _ _ h _ => h, fun _ _ _ h _ => h, fun _ _ _ h _ => h, fun _ _ _ h _ => h, fun _ _ _ h _ => h, fun _ _ _ h _ => h, fun _ _ _ h _ => h, trivial⟩ ⟨?_, ?_, ?_, ?_, ?_, ?_, ?_, ?_, ?_, ?_, ?_, ?_, ?_, trivial⟩ ?_
                · intro vs hl
                  obtain ⟨v0, v1, v2, v3, v4, v5, v6, v7, v8, v9, v10, v11, v12, rfl⟩ := len13 hl
                  clear hl
                  intro w1 hb hd K hK
                  simp only [fill, Act.put, List.zip_cons_cons, List.zip_nil_right, List.zip_nil_left, List.foldl_cons, List.foldl_nil, List.setIfInBounds_toArray, List.set_cons_zero, List.set_cons_succ] at hK ⊢
                  refine ⟨?_⟩
                  go_simp
                  exact hK _ _ (Below.refl _ _) rfl
                · intro vs hl
                  obtain ⟨v0, v1, v2, v3, v4, v5, v6, v7, v8, v9, v10, v11, v12, rfl⟩ := len13 hl
                  clear hl
                  intro w1 hb hd K hK
                  have e0 : w1.cell? ⟨w.heap.size, 0, none⟩ = some (.int .i64 a0) := (hb.cell (p := ⟨w.heap.size, 0, none⟩) LA.out).trans CA0.out
                  have e1 : w1.cell? ⟨w.heap.size, 1, none⟩ = some (.int .i64 a1) := (hb.cell (p := ⟨w.heap.size, 1, none⟩) LA.out).trans CA1.out
                  have e2 : w1.cell? ⟨w.heap.size, 2, none⟩ = some (.int .i64 a2) := (hb.cell (p := ⟨w.heap.size, 2, none⟩) LA.out).trans CA2.out
                  have e3 : w1.cell? ⟨w.heap.size, 3, none⟩ = some (.int .i64 a3) := (hb.cell (p := ⟨w.heap.size, 3, none⟩) LA.out).trans CA3.out
                  have e4 : w1.cell? ⟨w.heap.size, 4, none⟩ = some (.int .i64 a4) := (hb.cell (p := ⟨w.heap.size, 4, none⟩) LA.out).trans CA4.out
                  have e5 : w1.cell? ⟨w.heap.size, 5, none⟩ = some (.int .i64 a5) := (hb.cell (p := ⟨w.heap.size, 5, none⟩) LA.out).trans CA5.out
                  simp only [fill, Act.put, List.zip_cons_cons, List.zip_nil_right, List.zip_nil_left, List.foldl_cons, List.foldl_nil, List.setIfInBounds_toArray, List.set_cons_zero, List.set_cons_succ] at hK ⊢
                  refine ⟨?_⟩
                  go_simp
                  exact hK _ _ (Below.refl _ _) rfl
                · intro vs hl
                  obtain ⟨v0, v1, v2, v3, v4, v5, v6, v7, v8, v9, v10, v11, v12, rfl⟩ := len13 hl
                  clear hl
                  intro w1 hb hd K hK
                  have e0 : w1.cell? ⟨w.heap.size + 1, 0, none⟩ = some (.int .i64 b0) := (hb.cell (p := ⟨w.heap.size + 1, 0, none⟩) LB.out).trans CB0.out
                  have e1 : w1.cell? ⟨w.heap.size + 1, 1, none⟩ = some (.int .i64 b1) := (hb.cell (p := ⟨w.heap.size + 1, 1, none⟩) LB.out).trans CB1.out
                  have e2 : w1.cell? ⟨w.heap.size + 1, 2, none⟩ = some (.int .i64 b2) := (hb.cell (p := ⟨w.heap.size + 1, 2, none⟩) LB.out).trans CB2.out
                  have e3 : w1.cell? ⟨w.heap.size + 1, 3, none⟩ = some (.int .i64 b3) := (hb.cell (p := ⟨w.heap.size + 1, 3, none⟩) LB.out).trans CB3.out
                  have e4 : w1.cell? ⟨w.heap.size + 1, 4, none⟩ = some (.int .i64 b4) := (hb.cell (p := ⟨w.heap.size + 1, 4, none⟩) LB.out).trans CB4.out
                  have e5 : w1.cell? ⟨w.heap.size + 1, 5, none⟩ = some (.int .i64 b5) := (hb.cell (p := ⟨w.heap.size + 1, 5, none⟩) LB.out).trans CB5.out
                  simp only [fill, Act.put, List.zip_cons_cons, List.zip_nil_right, List.zip_nil_left, List.foldl_cons, List.foldl_nil, List.setIfInBounds_toArray, List.set_cons_zero, List.set_cons_succ] at hK ⊢
                  refine ⟨?_⟩
                  go_simp
                  exact hK _ _ (Below.refl _ _) rfl
                · intro vs hl
                  obtain ⟨v0, v1, v2, v3, v4, v5, v6, v7, v8, v9, v10, v11, v12, rfl⟩ := len13 hl
                  clear hl
                  intro w1 hb hd K hK
                  obtain ⟨h1, h2, _⟩ := hd
                  obtain rfl : v1 = .agg #[.int .i64 a0, .int .i64 a1, .int .i64 a2, .int .i64 a3, .int .i64 a4, .int .i64 a5] := h1
                  obtain rfl : v2 = .agg #[.int .i64 b0, .int .i64 b1, .int .i64 b2, .int .i64 b3, .int .i64 b4, .int .i64 b5] := h2
                  simp only [fill, Act.put, List.zip_cons_cons, List.zip_nil_right, List.zip_nil_left, List.foldl_cons, List.foldl_nil, List.setIfInBounds_toArray, List.set_cons_zero, List.set_cons_succ] at hK ⊢
                  refine ⟨?_⟩
                  go_simp
                  refine (HR1.out _).mono ?_
                  rintro e w2 ⟨rfl, hb2⟩
                  exact hK _ _ hb2 rfl
                · intro vs hl
                  obtain ⟨v0, v1, v2, v3, v4, v5, v6, v7, v8, v9, v10, v11, v12, rfl⟩ := len13 hl
                  clear hl
                  intro w1 hb hd K hK
                  have e0 : w1.cell? ⟨w.heap.size + 1, 0, none⟩ = some (.int .i64 b0) := (hb.cell (p := ⟨w.heap.size + 1, 0, none⟩) LB.out).trans CB0.out
                  have e1 : w1.cell? ⟨w.heap.size + 1, 1, none⟩ = some (.int .i64 b1) := (hb.cell (p := ⟨w.heap.size + 1, 1, none⟩) LB.out).trans CB1.out
                  have e2 : w1.cell? ⟨w.heap.size + 1, 2, none⟩ = some (.int .i64 b2) := (hb.cell (p := ⟨w.heap.size + 1, 2, none⟩) LB.out).trans CB2.out
                  have e3 : w1.cell? ⟨w.heap.size + 1, 3, none⟩ = some (.int .i64 b3) := (hb.cell (p := ⟨w.heap.size + 1, 3, none⟩) LB.out).trans CB3.out
                  have e4 : w1.cell? ⟨w.heap.size + 1, 4, none⟩ = some (.int .i64 b4) := (hb.cell (p := ⟨w.heap.size + 1, 4, none⟩) LB.out).trans CB4.out
                  have e5 : w1.cell? ⟨w.heap.size + 1, 5, none⟩ = some (.int .i64 b5) := (hb.cell (p := ⟨w.heap.size + 1, 5, none⟩) LB.out).trans CB5.out
                  simp only [fill, Act.put, List.zip_cons_cons, List.zip_nil_right, List.zip_nil_left, List.foldl_cons, List.foldl_nil, List.setIfInBounds_toArray, List.set_cons_zero, List.set_cons_succ] at hK ⊢
                  refine ⟨?_⟩
                  go_simp
                  exact hK _ _ (Below.refl _ _) rfl
                · intro vs hl
                  obtain ⟨v0, v1, v2, v3, v4, v5, v6, v7, v8, v9, v10, v11, v12, rfl⟩ := len13 hl
                  clear hl
                  intro w1 hb hd K hK
                  have e0 : w1.cell? ⟨w.heap.size, 0, none⟩ = some (.int .i64 a0) := (hb.cell (p := ⟨w.heap.size, 0, none⟩) LA.out).trans CA0.out
                  have e1 : w1.cell? ⟨w.heap.size, 1, none⟩ = some (.int .i64 a1) := (hb.cell (p := ⟨w.heap.size, 1, none⟩) LA.out).trans CA1.out
                  have e2 : w1.cell? ⟨w.heap.size, 2, none⟩ = some (.int .i64 a2) := (hb.cell (p := ⟨w.heap.size, 2, none⟩) LA.out).trans CA2.out
                  have e3 : w1.cell? ⟨w.heap.size, 3, none⟩ = some (.int .i64 a3) := (hb.cell (p := ⟨w.heap.size, 3, none⟩) LA.out).trans CA3.out
                  have e4 : w1.cell? ⟨w.heap.size, 4, none⟩ = some (.int .i64 a4) := (hb.cell (p := ⟨w.heap.size, 4, none⟩) LA.out).trans CA4.out
                  have e5 : w1.cell? ⟨w.heap.size, 5, none⟩ = some (.int .i64 a5) := (hb.cell (p := ⟨w.heap.size, 5, none⟩) LA.out).trans CA5.out
                  simp only [fill, Act.put, List.zip_cons_cons, List.zip_nil_right, List.zip_nil_left, List.foldl_cons, List.foldl_nil, List.setIfInBounds_toArray, List.set_cons_zero, List.set_cons_succ] at hK ⊢
                  refine ⟨?_⟩
                  go_simp
                  exact hK _ _ (Below.refl _ _) rfl
                · intro vs hl
                  obtain ⟨v0, v1, v2, v3, v4, v5, v6, v7, v8, v9, v10, v11, v12, rfl⟩ := len13 hl
                  clear hl
                  intro w1 hb hd K hK
                  obtain ⟨h4, h5, _⟩ := hd
                  obtain rfl : v4 = .agg #[.int .i64 b0, .int .i64 b1, .int .i64 b2, .int .i64 b3, .int .i64 b4, .int .i64 b5] := h4
                  obtain rfl : v5 = .agg #[.int .i64 a0, .int .i64 a1, .int .i64 a2, .int .i64 a3, .int .i64 a4, .int .i64 a5] := h5
                  simp only [fill, Act.put, List.zip_cons_cons, List.zip_nil_right, List.zip_nil_left, List.foldl_cons, List.foldl_nil, List.setIfInBounds_toArray, List.set_cons_zero, List.set_cons_succ] at hK ⊢
                  refine ⟨?_⟩
                  go_simp
                  refine (HR2.out _).mono ?_
                  rintro e w2 ⟨rfl, hb2⟩
                  exact hK _ _ hb2 rfl
                · intro vs hl
                  obtain ⟨v0, v1, v2, v3, v4, v5, v6, v7, v8, v9, v10, v11, v12, rfl⟩ := len13 hl
                  clear hl
                  intro w1 hb hd K hK
                  obtain ⟨h0, h3, h6, _⟩ := hd
                  obtain rfl : v0 = .func (.func 62) #[] #[] := h0
                  obtain rfl : v3 = .bool r1 := h3
                  obtain rfl : v6 = .bool r2 := h6
                  simp only [fill, Act.put, List.zip_cons_cons, List.zip_nil_right, List.zip_nil_left, List.foldl_cons, List.foldl_nil, List.setIfInBounds_toArray, List.set_cons_zero, List.set_cons_succ] at hK ⊢
                  refine ⟨?_⟩
                  go_simp
                  refine (HFR.out _).mono ?_
                  rintro e w2 ⟨rfl, hb2⟩
                  exact hK _ _ hb2 rfl
                · intro vs hl
                  obtain ⟨v0, v1, v2, v3, v4, v5, v6, v7, v8, v9, v10, v11, v12, rfl⟩ := len13 hl
                  clear hl
                  intro w1 hb hd K hK
                  obtain ⟨h7, _⟩ := hd
                  obtain rfl : v7 = .tuple #[.int .i64 dr, .bool br] := h7
                  simp only [fill, Act.put, List.zip_cons_cons, List.zip_nil_right, List.zip_nil_left, List.foldl_cons, List.foldl_nil, List.setIfInBounds_toArray, List.set_cons_zero, List.set_cons_succ] at hK ⊢
                  refine ⟨?_⟩
                  go_simp
                  exact hK _ _ (Below.refl _ _) rfl
                · intro vs hl
                  obtain ⟨v0, v1, v2, v3, v4, v5, v6, v7, v8, v9, v10, v11, v12, rfl⟩ := len13 hl
                  clear hl
                  intro w1 hb hd K hK
                  obtain ⟨h8, _⟩ := hd
                  obtain rfl : v8 = .tuple #[.int .i64 dr, .bool br] := h8
                  simp only [fill, Act.put, List.zip_cons_cons, List.zip_nil_right, List.zip_nil_left, List.foldl_cons, List.foldl_nil, List.setIfInBounds_toArray, List.set_cons_zero, List.set_cons_succ] at hK ⊢
                  refine ⟨?_⟩
                  go_simp
                  exact hK _ _ (Below.refl _ _) rfl
                · intro vs hl
                  obtain ⟨v0, v1, v2, v3, v4, v5, v6, v7, v8, v9, v10, v11, v12, rfl⟩ := len13 hl
                  clear hl
                  intro w1 hb hd K hK
                  obtain ⟨h8, _⟩ := hd
                  obtain rfl : v8 = .tuple #[.int .i64 dr, .bool br] := h8
                  simp only [fill, Act.put, List.zip_cons_cons, List.zip_nil_right, List.zip_nil_left, List.foldl_cons, List.foldl_nil, List.setIfInBounds_toArray, List.set_cons_zero, List.set_cons_succ] at hK ⊢
                  refine ⟨?_⟩
                  go_simp
                  exact hK _ _ (Below.refl _ _) rfl
                · intro vs hl
                  obtain ⟨v0, v1, v2, v3, v4, v5, v6, v7, v8, v9, v10, v11, v12, rfl⟩ := len13 hl
                  clear hl
                  intro w1 hb hd K hK
                  obtain ⟨h9, _⟩ := hd
                  obtain rfl : v9 = .int .i64 dr := h9
                  simp only [fill, Act.put, List.zip_cons_cons, List.zip_nil_right, List.zip_nil_left, List.foldl_cons, List.foldl_nil, List.setIfInBounds_toArray, List.set_cons_zero, List.set_cons_succ] at hK ⊢
                  refine ⟨?_⟩
                  go_simp
                  exact hK _ _ (Below.refl _ _) rfl
                · intro vs hl
                  obtain ⟨v0, v1, v2, v3, v4, v5, v6, v7, v8, v9, v10, v11, v12, rfl⟩ := len13 hl
                  clear hl
                  intro w1 hb hd K hK
                  obtain ⟨h10, _⟩ := hd
                  obtain rfl : v10 = .bool br := h10
                  simp only [fill, Act.put, List.zip_cons_cons, List.zip_nil_right, List.zip_nil_left, List.foldl_cons, List.foldl_nil, List.setIfInBounds_toArray, List.set_cons_zero, List.set_cons_succ] at hK ⊢
                  refine ⟨?_⟩
                  go_simp
                  exact hK _ _ (Below.refl _ _) rfl
                · intro vs hl
                  obtain ⟨v0, v1, v2, v3, v4, v5, v6, v7, v8, v9, v10, v11, v12, rfl⟩ := len13 hl
                  clear hl
                  intro w7 hb hd
                  obtain ⟨h0, h1, h2, h3, h4, h5, h6, h7, h8, h9, h10, h11, h12, _⟩ := hd
                  obtain rfl : v0 = .func (.func 62) #[] #[] := h0
                  obtain rfl : v1 = .agg #[.int .i64 a0, .int .i64 a1, .int .i64 a2, .int .i64 a3, .int .i64 a4, .int .i64 a5] := h1
                  obtain rfl : v2 = .agg #[.int .i64 b0, .int .i64 b1, .int .i64 b2, .int .i64 b3, .int .i64 b4, .int .i64 b5] := h2
                  obtain rfl : v3 = .bool r1 := h3
                  obtain rfl : v4 = .agg #[.int .i64 b0, .int .i64 b1, .int .i64 b2, .int .i64 b3, .int .i64 b4, .int .i64 b5] := h4
                  obtain rfl : v5 = .agg #[.int .i64 a0, .int .i64 a1, .int .i64 a2, .int .i64 a3, .int .i64 a4, .int .i64 a5] := h5
                  obtain rfl : v6 = .bool r2 := h6
                  obtain rfl : v7 = .tuple #[.int .i64 dr, .bool br] := h7
                  obtain rfl : v8 = .tuple #[.int .i64 dr, .bool br] := h8
                  obtain rfl : v9 = .int .i64 dr := h9
                  obtain rfl : v10 = .bool br := h10
                  obtain rfl : v11 = .int .i64 dr := h11
                  obtain rfl : v12 = .bool br := h12
                  simp only [fill, Act.put, List.zip_cons_cons, List.zip_nil_right, List.zip_nil_left, List.foldl_cons, List.foldl_nil, List.setIfInBounds_toArray, List.set_cons_zero, List.set_cons_succ]
                  have hbz : Below w.heap.size w w7 := Below.trans (show Below w.heap.size w w6.drew from pw_below_drewN HB.out 1) (hb.mono HB.out.size)
                  replace CA0 := Aside0.mk ((hb.cell (p := ⟨w.heap.size, 0, none⟩) LA.out).trans CA0.out)
                  replace CB0 := Aside0.mk ((hb.cell (p := ⟨w.heap.size + 1, 0, none⟩) LB.out).trans CB0.out)
                  replace CA1 := Aside0.mk ((hb.cell (p := ⟨w.heap.size, 1, none⟩) LA.out).trans CA1.out)
                  replace CB1 := Aside0.mk ((hb.cell (p := ⟨w.heap.size + 1, 1, none⟩) LB.out).trans CB1.out)
                  replace CA2 := Aside0.mk ((hb.cell (p := ⟨w.heap.size, 2, none⟩) LA.out).trans CA2.out)
                  replace CB2 := Aside0.mk ((hb.cell (p := ⟨w.heap.size + 1, 2, none⟩) LB.out).trans CB2.out)
                  replace CA3 := Aside0.mk ((hb.cell (p := ⟨w.heap.size, 3, none⟩) LA.out).trans CA3.out)
                  replace CB3 := Aside0.mk ((hb.cell (p := ⟨w.heap.size + 1, 3, none⟩) LB.out).trans CB3.out)
                  replace CA4 := Aside0.mk ((hb.cell (p := ⟨w.heap.size, 4, none⟩) LA.out).trans CA4.out)
                  replace CB4 := Aside0.mk ((hb.cell (p := ⟨w.heap.size + 1, 4, none⟩) LB.out).trans CB4.out)
                  replace CA5 := Aside0.mk ((hb.cell (p := ⟨w.heap.size, 5, none⟩) LA.out).trans CA5.out)
                  replace CB5 := Aside0.mk ((hb.cell (p := ⟨w.heap.size + 1, 5, none⟩) LB.out).trans CB5.out)
                  replace LA := Aside0.mk (Nat.lt_of_lt_of_le LA.out hb.size)
                  replace LB := Aside0.mk (Nat.lt_of_lt_of_le LB.out hb.size)
                  replace HB := Aside0.mk hbz
                  clear hb hbz
                  cases br
                  case true =>
                    go_wp2
                    go_ret
                    exact ⟨rfl, HB.out⟩
                  case false =>
                    have ca0 := CA0.out
                    have ca1 := CA1.out
                    have ca2 := CA2.out
                    have ca3 := CA3.out
                    have ca4 := CA4.out
                    have ca5 := CA5.out
                    have cb0 := CB0.out
                    have cb1 := CB1.out
                    have cb2 := CB2.out
                    have cb3 := CB3.out
                    have cb4 := CB4.out
                    have cb5 := CB5.out
                    have la := LA.out
                    have lb := LB.out
                    go_wp2_with fail
                    refine (HFD.out _).mono ?_
                    rintro e w8 ⟨rfl, hb⟩
                    clear ca0 ca1 ca2 ca3 ca4 ca5 cb0 cb1 cb2 cb3 cb4 cb5 la lb
                    replace CA0 := Aside0.mk ((hb.cell (p := ⟨w.heap.size, 0, none⟩) LA.out).trans CA0.out)
                    replace CB0 := Aside0.mk ((hb.cell (p := ⟨w.heap.size + 1, 0, none⟩) LB.out).trans CB0.out)
                    replace CA1 := Aside0.mk ((hb.cell (p := ⟨w.heap.size, 1, none⟩) LA.out).trans CA1.out)
                    replace CB1 := Aside0.mk ((hb.cell (p := ⟨w.heap.size + 1, 1, none⟩) LB.out).trans CB1.out)
                    replace CA2 := Aside0.mk ((hb.cell (p := ⟨w.heap.size, 2, none⟩) LA.out).trans CA2.out)
                    replace CB2 := Aside0.mk ((hb.cell (p := ⟨w.heap.size + 1, 2, none⟩) LB.out).trans CB2.out)
                    replace CA3 := Aside0.mk ((hb.cell (p := ⟨w.heap.size, 3, none⟩) LA.out).trans CA3.out)
                    replace CB3 := Aside0.mk ((hb.cell (p := ⟨w.heap.size + 1, 3, none⟩) LB.out).trans CB3.out)
                    replace CA4 := Aside0.mk ((hb.cell (p := ⟨w.heap.size, 4, none⟩) LA.out).trans CA4.out)
                    replace CB4 := Aside0.mk ((hb.cell (p := ⟨w.heap.size + 1, 4, none⟩) LB.out).trans CB4.out)
                    replace CA5 := Aside0.mk ((hb.cell (p := ⟨w.heap.size, 5, none⟩) LA.out).trans CA5.out)
                    replace CB5 := Aside0.mk ((hb.cell (p := ⟨w.heap.size + 1, 5, none⟩) LB.out).trans CB5.out)
                    replace LA := Aside0.mk (Nat.lt_of_lt_of_le LA.out hb.size)
                    replace LB := Aside0.mk (Nat.lt_of_lt_of_le LB.out hb.size)
                    replace HB := Aside0.mk (HB.out.trans (hb.mono HB.out.size))
                    clear hb
                    cases bd
                    case true =>
                      go_wp2
                      go_ret
                      exact ⟨rfl, HB.out⟩
                    case false =>
                      go_wp2
                      go_ret
                      exact ⟨rfl, HB.out⟩
              case true =>
                by_cases h1 : a4 = 1
                · have g1 : (a4 == 1) = true := beq_iff_eq.mpr h1
                  have g2 : decide (a4 = 1) = true := decide_eq_true h1
                  have E1 := Aside0.mk g2
                  have ca0 := CA0.out
                  have ca1 := CA1.out
                  have ca2 := CA2.out
                  have ca3 := CA3.out
                  have ca4 := CA4.out
                  have ca5 := CA5.out
                  have cb0 := CB0.out
                  have cb1 := CB1.out
                  have cb2 := CB2.out
                  have cb3 := CB3.out
                  have cb4 := CB4.out
                  have cb5 := CB5.out
                  have la := LA.out
                  have lb := LB.out
                  go_wp2
                  go_ret
                  exact ⟨by first | rfl | (rw [E1.out]; rfl), HB.out⟩
                · have g1 : (a4 == 1) = false := beq_eq_false_iff_ne.mpr h1
                  have g2 : decide (a4 = 1) = false := decide_eq_false h1
                  have E1 := Aside0.mk g2
                  have ca0 := CA0.out
                  have ca1 := CA1.out
                  have ca2 := CA2.out
                  have ca3 := CA3.out
                  have ca4 := CA4.out
                  have ca5 := CA5.out
                  have cb0 := CB0.out
                  have cb1 := CB1.out
                  have cb2 := CB2.out
                  have cb3 := CB3.out
                  have cb4 := CB4.out
                  have cb5 := CB5.out
                  have la := LA.out
                  have lb := LB.out
                  go_upto_region 14 with fail
                  clear ca0 ca1 ca2 ca3 ca4 ca5 cb0 cb1 cb2 cb3 cb4 cb5 la lb
                  refine region_each (by kernel_rfl) [67, 68, 69, 70, 71, 72, 73, 74, 66, 75, 76, 10, 11] [undef, undef, undef, undef, undef, undef, undef, undef, undef, undef, undef, undef, undef] [fun v _ => v = .func (.func 62) #[] #[], fun v _ => v = .agg #[.int .i64 a0, .int .i64 a1, .int .i64 a2, .int .i64 a3, .int .i64 a4, .int .i64 a5], fun v _ => v = .agg #[.int .i64 b0, .int .i64 b1, .int .i64 b2, .int .i64 b3, .int .i64 b4, .int .i64 b5], fun v _ => v = .bool r1, fun v _ => v = .agg #[.int .i64 b0, .int .i64 b1, .int .i64 b2, .int .i64 b3, .int .i64 b4, .int .i64 b5], fun v _ => v = .agg #[.int .i64 a0, .int .i64 a1, .int .i64 a2, .int .i64 a3, .int .i64 a4, .int .i64 a5], fun v _ => v = .bool r2, fun v _ => v = .tuple #[.int .i64 dr, .bool br], fun v _ => v = .tuple #[.int .i64 dr, .bool br], fun v _ => v = .int .i64 dr, fun v _ => v = .bool br, fun v _ => v = .int .i64 dr, fun v _ => v = .bool br] (by kernel_rfl) (by kernel_rfl) rfl (by kernel_rfl)
                    ⟨fun _ _ _ h _ => h, fun _ _ _ h _ => h, fun _ _ _ h _ => h, fun _ _ _ h _ => h, fun _ _ _ h _ => h, fun _ _ _ h _ => h, fun _ _ _ h _ => h, fun _ _ _ h _ => h, fun _ _ _ h _ => h, fun _ _ _ h _ => h, fun _ _ _ h _ => h, fun _ _ _ h _ => h, fun _ _ _ h _ => h, trivial⟩ ⟨?_, ?_, ?_, ?_, ?_, ?_, ?_, ?_, ?_, ?_, ?_, ?_, ?_, trivial⟩ ?_
                  · intro vs hl
                    obtain ⟨v0, v1, v2, v3, v4, v5, v6, v7, v8, v9, v10, v11, v12, rfl⟩ := len13 hl
                    clear hl
                    intro w1 hb hd K hK
                    simp only [fill, Act.put, List.zip_cons_cons, List.zip_nil_right, List.zip_nil_left, List.foldl_cons, List.foldl_nil, List.setIfInBounds_toArray, List.set_cons_zero, List.set_cons_succ] at hK ⊢
                    refine ⟨?_⟩
                    go_simp
                    exact hK _ _ (Below.refl _ _) rfl
                  · intro vs hl
                    obtain ⟨v0, v1, v2, v3, v4, v5, v6, v7, v8, v9, v10, v11, v12, rfl⟩ := len13 hl
                    clear hl
                    intro w1 hb hd K hK
                    have e0 : w1.cell? ⟨w.heap.size, 0, none⟩ = some (.int .i64 a0) := (hb.cell (p := ⟨w.heap.size, 0, none⟩) LA.out).trans CA0.out
                    have e1 : w1.cell? ⟨w.heap.size, 1, none⟩ = some (.int .i64 a1) := (hb.cell (p := ⟨w.heap.size, 1, none⟩) LA.out).trans CA1.out
                    have e2 : w1.cell? ⟨w.heap.size, 2, none⟩ = some (.int .i64 a2) := (hb.cell (p := ⟨w.heap.size, 2, none⟩) LA.out).trans CA2.out
                    have e3 : w1.cell? ⟨w.heap.size, 3, none⟩ = some (.int .i64 a3) := (hb.cell (p := ⟨w.heap.size, 3, none⟩) LA.out).trans CA3.out
                    have e4 : w1.cell? ⟨w.heap.size, 4, none⟩ = some (.int .i64 a4) := (hb.cell (p := ⟨w.heap.size, 4, none⟩) LA.out).trans CA4.out
                    have e5 : w1.cell? ⟨w.heap.size, 5, none⟩ = some (.int .i64 a5) := (hb.cell (p := ⟨w.heap.size, 5, none⟩) LA.out).trans CA5.out
                    simp only [fill, Act.put, List.zip_cons_cons, List.zip_nil_right, List.zip_nil_left, List.foldl_cons, List.foldl_nil, List.setIfInBounds_toArray, List.set_cons_zero, List.set_cons_succ] at hK ⊢
                    refine ⟨?_⟩
                    go_simp
                    exact hK _ _ (Below.refl _ _) rfl
                  · intro vs hl
                    obtain ⟨v0, v1, v2, v3, v4, v5, v6, v7, v8, v9, v10, v11, v12, rfl⟩ := len13 hl
                    clear hl
                    intro w1 hb hd K hK
                    have e0 : w1.cell? ⟨w.heap.size + 1, 0, none⟩ = some (.int .i64 b0) := (hb.cell (p := ⟨w.heap.size + 1, 0, none⟩) LB.out).trans CB0.out
                    have e1 : w1.cell? ⟨w.heap.size + 1, 1, none⟩ = some (.int .i64 b1) := (hb.cell (p := ⟨w.heap.size + 1, 1, none⟩) LB.out).trans CB1.out
                    have e2 : w1.cell? ⟨w.heap.size + 1, 2, none⟩ = some (.int .i64 b2) := (hb.cell (p := ⟨w.heap.size + 1, 2, none⟩) LB.out).trans CB2.out
                    have e3 : w1.cell? ⟨w.heap.size + 1, 3, none⟩ = some (.int .i64 b3) := (hb.cell (p := ⟨w.heap.size + 1, 3, none⟩) LB.out).trans CB3.out
                    have e4 : w1.cell? ⟨w.heap.size + 1, 4, none⟩ = some (.int .i64 b4) := (hb.cell (p := ⟨w.heap.size + 1, 4, none⟩) LB.out).trans CB4.out
                    have e5 : w1.cell? ⟨w.heap.size + 1, 5, none⟩ = some (.int .i64 b5) := (hb.cell (p := ⟨w.heap.size + 1, 5, none⟩) LB.out).trans CB5.out
                    simp only [fill, Act.put, List.zip_cons_cons, List.zip_nil_right, List.zip_nil_left, List.foldl_cons, List.foldl_nil, List.setIfInBounds_toArray, List.set_cons_zero, List.set_cons_succ] at hK ⊢
                    refine ⟨?_⟩
                    go_simp
                    exact hK _ _ (Below.refl _ _) rfl
                  · intro vs hl
                    obtain ⟨v0, v1, v2, v3, v4, v5, v6, v7, v8, v9, v10, v11, v12, rfl⟩ := len13 hl
                    clear hl
                    intro w1 hb hd K hK
                    obtain ⟨h1, h2, _⟩ := hd
                    obtain rfl : v1 = .agg #[.int .i64 a0, .int .i64 a1, .int .i64 a2, .int .i64 a3, .int .i64 a4, .int .i64 a5] := h1
                    obtain rfl : v2 = .agg #[.int .i64 b0, .int .i64 b1, .int .i64 b2, .int .i64 b3, .int .i64 b4, .int .i64 b5] := h2
                    simp only [fill, Act.put, List.zip_cons_cons, List.zip_nil_right, List.zip_nil_left, List.foldl_cons, List.foldl_nil, List.setIfInBounds_toArray, List.set_cons_zero, List.set_cons_succ] at hK ⊢
                    refine ⟨?_⟩
                    go_simp
                    refine (HR1.out _).mono ?_
                    rintro e w2 ⟨rfl, hb2⟩
                    exact hK _ _ hb2 rfl
                  · intro vs hl
                    obtain ⟨v0, v1, v2, v3, v4, v5, v6, v7, v8, v9, v10, v11, v12, rfl⟩ := len13 hl
                    clear hl
                    intro w1 hb hd K hK
                    have e0 : w1.cell? ⟨w.heap.size + 1, 0, none⟩ = some (.int .i64 b0) := (hb.cell (p := ⟨w.heap.size + 1, 0, none⟩) LB.out).trans CB0.out
                    have e1 : w1.cell? ⟨w.heap.size + 1, 1, none⟩ = some (.int .i64 b1) := (hb.cell (p := ⟨w.heap.size + 1, 1, none⟩) LB.out).trans CB1.out
                    have e2 : w1.cell? ⟨w.heap.size + 1, 2, none⟩ = some (.int .i64 b2) := (hb.cell (p := ⟨w.heap.size + 1, 2, none⟩) LB.out).trans CB2.out
                    have e3 : w1.cell? ⟨w.heap.size + 1, 3, none⟩ = some (.int .i64 b3) := (hb.cell (p := ⟨w.heap.size + 1, 3, none⟩) LB.out).trans CB3.out
                    have e4 : w1.cell? ⟨w.heap.size + 1, 4, none⟩ = some (.int .i64 b4) := (hb.cell (p := ⟨w.heap.size + 1, 4, none⟩) LB.out).trans CB4.out
                    have e5 : w1.cell? ⟨w.heap.size + 1, 5, none⟩ = some (.int .i64 b5) := (hb.cell (p := ⟨w.heap.size + 1, 5, none⟩) LB.out).trans CB5.out
                    simp only [fill, Act.put, List.zip_cons_cons, List.zip_nil_right, List.zip_nil_left, List.foldl_cons, List.foldl_nil, List.setIfInBounds_toArray, List.set_cons_zero, List.set_cons_succ] at hK ⊢
                    refine ⟨?_⟩
                    go_simp
                    exact hK _ _ (Below.refl _ _) rfl
                  · intro vs hl
                    obtain ⟨v0, v1, v2, v3, v4, v5, v6, v7, v8, v9, v10, v11, v12, rfl⟩ := len13 hl
                    clear hl
                    intro w1 hb hd K hK
                    have e0 : w1.cell? ⟨w.heap.size, 0, none⟩ = some (.int .i64 a0) := (hb.cell (p := ⟨w.heap.size, 0, none⟩) LA.out).trans CA0.out
                    have e1 : w1.cell? ⟨w.heap.size, 1, none⟩ = some (.int .i64 a1) := (hb.cell (p := ⟨w.heap.size, 1, none⟩) LA.out).trans CA1.out
                    have e2 : w1.cell? ⟨w.heap.size, 2, none⟩ = some (.int .i64 a2) := (hb.cell (p := ⟨w.heap.size, 2, none⟩) LA.out).trans CA2.out
                    have e3 : w1.cell? ⟨w.heap.size, 3, none⟩ = some (.int .i64 a3) := (hb.cell (p := ⟨w.heap.size, 3, none⟩) LA.out).trans CA3.out
                    have e4 : w1.cell? ⟨w.heap.size, 4, none⟩ = some (.int .i64 a4) := (hb.cell (p := ⟨w.heap.size, 4, none⟩) LA.out).trans CA4.out
                    have e5 : w1.cell? ⟨w.heap.size, 5, none⟩ = some (.int .i64 a5) := (hb.cell (p := ⟨w.heap.size, 5, none⟩) LA.out).trans CA5.out
                    simp only [fill, Act.put, List.zip_cons_cons, List.zip_nil_right, List.zip_nil_left, List.foldl_cons, List.foldl_nil, List.setIfInBounds_toArray, List.set_cons_zero, List.set_cons_succ] at hK ⊢
                    refine ⟨?_⟩
                    go_simp
                    exact hK _ _ (Below.refl _ _) rfl
                  · intro vs hl
                    obtain ⟨v0, v1, v2, v3, v4, v5, v6, v7, v8, v9, v10, v11, v12, rfl⟩ := len13 hl
                    clear hl
                    intro w1 hb hd K hK
                    obtain ⟨h4, h5, _⟩ := hd
                    obtain rfl : v4 = .agg #[.int .i64 b0, .int .i64 b1, .int .i64 b2, .int .i64 b3, .int .i64 b4, .int .i64 b5] := h4
                    obtain rfl : v5 = .agg #[.int .i64 a0, .int .i64 a1, .int .i64 a2, .int .i64 a3, .int .i64 a4, .int .i64 a5] := h5
                    simp only [fill, Act.put, List.zip_cons_cons, List.zip_nil_right, List.zip_nil_left, List.foldl_cons, List.foldl_nil, List.setIfInBounds_toArray, List.set_cons_zero, List.set_cons_succ] at hK ⊢
                    refine ⟨?_⟩
                    go_simp
                    refine (HR2.out _).mono ?_
                    rintro e w2 ⟨rfl, hb2⟩
                    exact hK _ _ hb2 rfl
                  · intro vs hl
                    obtain ⟨v0, v1, v2, v3, v4, v5, v6, v7, v8, v9, v10, v11, v12, rfl⟩ := len13 hl
                    clear hl
                    intro w1 hb hd K hK
                    obtain ⟨h0, h3, h6, _⟩ := hd
                    obtain rfl : v0 = .func (.func 62) #[] #[] := h0
                    obtain rfl : v3 = .bool r1 := h3
                    obtain rfl : v6 = .bool r2 := h6
                    simp only [fill, Act.put, List.zip_cons_cons, List.zip_nil_right, List.zip_nil_left, List.foldl_cons, List.foldl_nil, List.setIfInBounds_toArray, List.set_cons_zero, List.set_cons_succ] at hK ⊢
                    refine ⟨?_⟩
                    go_simp
                    refine (HFR.out _).mono ?_
                    rintro e w2 ⟨rfl, hb2⟩
                    exact hK _ _ hb2 rfl
                  · intro vs hl
                    obtain ⟨v0, v1, v2, v3, v4, v5, v6, v7, v8, v9, v10, v11, v12, rfl⟩ := len13 hl
                    clear hl
                    intro w1 hb hd K hK
                    obtain ⟨h7, _⟩ := hd
                    obtain rfl : v7 = .tuple #[.int .i64 dr, .bool br] := h7
                    simp only [fill, Act.put, List.zip_cons_cons, List.zip_nil_right, List.zip_nil_left, List.foldl_cons, List.foldl_nil, List.setIfInBounds_toArray, List.set_cons_zero, List.set_cons_succ] at hK ⊢
                    refine ⟨?_⟩
                    go_simp
                    exact hK _ _ (Below.refl _ _) rfl
                  · intro vs hl
                    obtain ⟨v0, v1, v2, v3, v4, v5, v6, v7, v8, v9, v10, v11, v12, rfl⟩ := len13 hl
                    clear hl
                    intro w1 hb hd K hK
                    obtain ⟨h8, _⟩ := hd
                    obtain rfl : v8 = .tuple #[.int .i64 dr, .bool br] := h8
                    simp only [fill, Act.put, List.zip_cons_cons, List.zip_nil_right, List.zip_nil_left, List.foldl_cons, List.foldl_nil, List.setIfInBounds_toArray, List.set_cons_zero, List.set_cons_succ] at hK ⊢
                    refine ⟨?_⟩
                    go_simp
                    exact hK _ _ (Below.refl _ _) rfl
                  · intro vs hl
                    obtain ⟨v0, v1, v2, v3, v4, v5, v6, v7, v8, v9, v10, v11, v12, rfl⟩ := len13 hl
                    clear hl
                    intro w1 hb hd K hK
                    obtain ⟨h8, _⟩ := hd
                    obtain rfl : v8 = .tuple #[.int .i64 dr, .bool br] := h8
                    simp only [fill, Act.put, List.zip_cons_cons, List.zip_nil_right, List.zip_nil_left, List.foldl_cons, List.foldl_nil, List.setIfInBounds_toArray, List.set_cons_zero, List.set_cons_succ] at hK ⊢
                    refine ⟨?_⟩
                    go_simp
                    exact hK _ _ (Below.refl _ _) rfl
                  · intro vs hl
                    obtain ⟨v0, v1, v2, v3, v4, v5, v6, v7, v8, v9, v10, v11, v12, rfl⟩ := len13 hl
                    clear hl
                    intro w1 hb hd K hK
                    obtain ⟨h9, _⟩ := hd
                    obtain rfl : v9 = .int .i64 dr := h9
                    simp only [fill, Act.put, List.zip_cons_cons, List.zip_nil_right, List.zip_nil_left, List.foldl_cons, List.foldl_nil, List.setIfInBounds_toArray, List.set_cons_zero, List.set_cons_succ] at hK ⊢
                    refine ⟨?_⟩
                    go_simp
                    exact hK _ _ (Below.refl _ _) rfl
                  · intro vs hl
                    obtain ⟨v0, v1, v2, v3, v4, v5, v6, v7, v8, v9, v10, v11, v12, rfl⟩ := len13 hl
                    clear hl
                    intro w1 hb hd K hK
                    obtain ⟨h10, _⟩ := hd
                    obtain rfl : v10 = .bool br := h10
                    simp only [fill, Act.put, List.zip_cons_cons, List.zip_nil_right, List.zip_nil_left, List.foldl_cons, List.foldl_nil, List.setIfInBounds_toArray, List.set_cons_zero, List.set_cons_succ] at hK ⊢
                    refine ⟨?_⟩
                    go_simp
                    exact hK _ _ (Below.refl _ _) rfl
                  · intro vs hl
                    obtain ⟨v0, v1, v2, v3, v4, v5, v6, v7, v8, v9, v10, v11, v12, rfl⟩ := len13 hl
                    clear hl
                    intro w7 hb hd
                    obtain ⟨h0, h1, h2, h3, h4, h5, h6, h7, h8, h9, h10, h11, h12, _⟩ := hd
                    obtain rfl : v0 = .func (.func 62) #[] #[] := h0
                    obtain rfl : v1 = .agg #[.int .i64 a0, .int .i64 a1, .int .i64 a2, .int .i64 a3, .int .i64 a4, .int .i64 a5] := h1
                    obtain rfl : v2 = .agg #[.int .i64 b0, .int .i64 b1, .int .i64 b2, .int .i64 b3, .int .i64 b4, .int .i64 b5] := h2
                    obtain rfl : v3 = .bool r1 := h3
                    obtain rfl : v4 = .agg #[.int .i64 b0, .int .i64 b1, .int .i64 b2, .int .i64 b3, .int .i64 b4, .int .i64 b5] := h4
                    obtain rfl : v5 = .agg #[.int .i64 a0, .int .i64 a1, .int .i64 a2, .int .i64 a3, .int .i64 a4, .int .i64 a5] := h5
                    obtain rfl : v6 = .bool r2 := h6
                    obtain rfl : v7 = .tuple #[.int .i64 dr, .bool br] := h7
                    obtain rfl : v8 = .tuple #[.int .i64 dr, .bool br] := h8
                    obtain rfl : v9 = .int .i64 dr := h9
                    obtain rfl : v10 = .bool br := h10
                    obtain rfl : v11 = .int .i64 dr := h11
                    obtain rfl : v12 = .bool br := h12
                    simp only [fill, Act.put, List.zip_cons_cons, List.zip_nil_right, List.zip_nil_left, List.foldl_cons, List.foldl_nil, List.setIfInBounds_toArray, List.set_cons_zero, List.set_cons_succ]
                    have hbz : Below w.heap.size w w7 := Below.trans (show Below w.heap.size w w6.drew from pw_below_drewN HB.out 1) (hb.mono HB.out.size)
                    replace CA0 := Aside0.mk ((hb.cell (p := ⟨w.heap.size, 0, none⟩) LA.out).trans CA0.out)
                    replace CB0 := Aside0.mk ((hb.cell (p := ⟨w.heap.size + 1, 0, none⟩) LB.out).trans CB0.out)
                    replace CA1 := Aside0.mk ((hb.cell (p := ⟨w.heap.size, 1, none⟩) LA.out).trans CA1.out)
                    replace CB1 := Aside0.mk ((hb.cell (p := ⟨w.heap.size + 1, 1, none⟩) LB.out).trans CB1.out)
                    replace CA2 := Aside0.mk ((hb.cell (p := ⟨w.heap.size, 2, none⟩) LA.out).trans CA2.out)
                    replace CB2 := Aside0.mk ((hb.cell (p := ⟨w.heap.size + 1, 2, none⟩) LB.out).trans CB2.out)
                    replace CA3 := Aside0.mk ((hb.cell (p := ⟨w.heap.size, 3, none⟩) LA.out).trans CA3.out)
                    replace CB3 := Aside0.mk ((hb.cell (p := ⟨w.heap.size + 1, 3, none⟩) LB.out).trans CB3.out)
                    replace CA4 := Aside0.mk ((hb.cell (p := ⟨w.heap.size, 4, none⟩) LA.out).trans CA4.out)
                    replace CB4 := Aside0.mk ((hb.cell (p := ⟨w.heap.size + 1, 4, none⟩) LB.out).trans CB4.out)
                    replace CA5 := Aside0.mk ((hb.cell (p := ⟨w.heap.size, 5, none⟩) LA.out).trans CA5.out)
                    replace CB5 := Aside0.mk ((hb.cell (p := ⟨w.heap.size + 1, 5, none⟩) LB.out).trans CB5.out)
                    replace LA := Aside0.mk (Nat.lt_of_lt_of_le LA.out hb.size)
                    replace LB := Aside0.mk (Nat.lt_of_lt_of_le LB.out hb.size)
                    replace HB := Aside0.mk hbz
                    clear hb hbz
                    cases br
                    case true =>
                      go_wp2
                      go_ret
                      exact ⟨by first | rfl | (rw [E1.out]; rfl), HB.out⟩
                    case false =>
                      have ca0 := CA0.out
                      have ca1 := CA1.out
                      have ca2 := CA2.out
                      have ca3 := CA3.out
                      have ca4 := CA4.out
                      have ca5 := CA5.out
                      have cb0 := CB0.out
                      have cb1 := CB1.out
                      have cb2 := CB2.out
                      have cb3 := CB3.out
                      have cb4 := CB4.out
                      have cb5 := CB5.out
                      have la := LA.out
                      have lb := LB.out
                      go_wp2_with fail
                      refine (HFD.out _).mono ?_
                      rintro e w8 ⟨rfl, hb⟩
                      clear ca0 ca1 ca2 ca3 ca4 ca5 cb0 cb1 cb2 cb3 cb4 cb5 la lb
                      replace CA0 := Aside0.mk ((hb.cell (p := ⟨w.heap.size, 0, none⟩) LA.out).trans CA0.out)
                      replace CB0 := Aside0.mk ((hb.cell (p := ⟨w.heap.size + 1, 0, none⟩) LB.out).trans CB0.out)
                      replace CA1 := Aside0.mk ((hb.cell (p := ⟨w.heap.size, 1, none⟩) LA.out).trans CA1.out)
                      replace CB1 := Aside0.mk ((hb.cell (p := ⟨w.heap.size + 1, 1, none⟩) LB.out).trans CB1.out)
                      replace CA2 := Aside0.mk ((hb.cell (p := ⟨w.heap.size, 2, none⟩) LA.out).trans CA2.out)
                      replace CB2 := Aside0.mk ((hb.cell (p := ⟨w.heap.size + 1, 2, none⟩) LB.out).trans CB2.out)
                      replace CA3 := Aside0.mk ((hb.cell (p := ⟨w.heap.size, 3, none⟩) LA.out).trans CA3.out)
                      replace CB3 := Aside0.mk ((hb.cell (p := ⟨w.heap.size + 1, 3, none⟩) LB.out).trans CB3.out)
                      replace CA4 := Aside0.mk ((hb.cell (p := ⟨w.heap.size, 4, none⟩) LA.out).trans CA4.out)
                      replace CB4 := Aside0.mk ((hb.cell (p := ⟨w.heap.size + 1, 4, none⟩) LB.out).trans CB4.out)
                      replace CA5 := Aside0.mk ((hb.cell (p := ⟨w.heap.size, 5, none⟩) LA.out).trans CA5.out)
                      replace CB5 := Aside0.mk ((hb.cell (p := ⟨w.heap.size + 1, 5, none⟩) LB.out).trans CB5.out)
                      replace LA := Aside0.mk (Nat.lt_of_lt_of_le LA.out hb.size)
                      replace LB := Aside0.mk (Nat.lt_of_lt_of_le LB.out hb.size)
                      replace HB := Aside0.mk (HB.out.trans (hb.mono HB.out.size))
                      clear hb
                      cases bd
                      case true =>
                        go_wp2
                        go_ret
                        exact ⟨by first | rfl | (rw [E1.out]; rfl), HB.out⟩
                      case false =>
                        go_wp2
                        go_ret
                        exact ⟨by first | rfl | (rw [E1.out]; rfl), HB.out⟩
theorem duty_any (a0 a1 a2 a3 a4 a5 b0 b1 b2 b3 b4 b5 : Int) (s1 s2 cl x1 x2 ho r1 r2 : Bool) (w : World)
    (hS1 : ∀ W : World, Calls Try.prog 17 #[.agg #[.int .i64 a0, .int .i64 a1, .int .i64 a2, .int .i64 a3, .int .i64 a4, .int .i64 a5]] W fun e w' => e = .returned (.bool s1) ∧ Below W.heap.size W w')
    (hS2 : ∀ W : World, Calls Try.prog 17 #[.agg #[.int .i64 b0, .int .i64 b1, .int .i64 b2, .int .i64 b3, .int .i64 b4, .int .i64 b5]] W fun e w' => e = .returned (.bool s2) ∧ Below W.heap.size W w')
    (hC : ∀ W : World, Calls Try.prog 63 #[.agg #[.int .i64 a0, .int .i64 a1, .int .i64 a2, .int .i64 a3, .int .i64 a4, .int .i64 a5], .agg #[.int .i64 b0, .int .i64 b1, .int .i64 b2, .int .i64 b3, .int .i64 b4, .int .i64 b5]] W fun e w' => e = .returned (.bool cl) ∧ Below W.heap.size W w')
    (hX1 : ∀ W : World, Calls Try.prog 29 #[.agg #[.int .i64 a0, .int .i64 a1, .int .i64 a2, .int .i64 a3, .int .i64 a4, .int .i64 a5], .agg #[.int .i64 b0, .int .i64 b1, .int .i64 b2, .int .i64 b3, .int .i64 b4, .int .i64 b5]] W fun e w' => e = .returned (.bool x1) ∧ Below W.heap.size W w')
    (hX2 : ∀ W : World, Calls Try.prog 29 #[.agg #[.int .i64 b0, .int .i64 b1, .int .i64 b2, .int .i64 b3, .int .i64 b4, .int .i64 b5], .agg #[.int .i64 a0, .int .i64 a1, .int .i64 a2, .int .i64 a3, .int .i64 a4, .int .i64 a5]] W fun e w' => e = .returned (.bool x2) ∧ Below W.heap.size W w')
    (hH : ∀ W : World, Calls Try.prog 31 #[.agg #[.int .i64 a0, .int .i64 a1, .int .i64 a2, .int .i64 a3, .int .i64 a4, .int .i64 a5], .agg #[.int .i64 b0, .int .i64 b1, .int .i64 b2, .int .i64 b3, .int .i64 b4, .int .i64 b5]] W fun e w' => e = .returned (.bool ho) ∧ Below W.heap.size W w')
    (hR1 : ∀ W : World, Calls Try.prog 64 #[.agg #[.int .i64 a0, .int .i64 a1, .int .i64 a2, .int .i64 a3, .int .i64 a4, .int .i64 a5], .agg #[.int .i64 b0, .int .i64 b1, .int .i64 b2, .int .i64 b3, .int .i64 b4, .int .i64 b5]] W fun e w' => e = .returned (.bool r1) ∧ Below W.heap.size W w')
    (hR2 : ∀ W : World, Calls Try.prog 64 #[.agg #[.int .i64 b0, .int .i64 b1, .int .i64 b2, .int .i64 b3, .int .i64 b4, .int .i64 b5], .agg #[.int .i64 a0, .int .i64 a1, .int .i64 a2, .int .i64 a3, .int .i64 a4, .int .i64 a5]] W fun e w' => e = .returned (.bool r2) ∧ Below W.heap.size W w') :
    Calls Try.prog 23 #[.agg #[.int .i64 a0, .int .i64 a1, .int .i64 a2, .int .i64 a3, .int .i64 a4, .int .i64 a5], .agg #[.int .i64 b0, .int .i64 b1, .int .i64 b2, .int .i64 b3, .int .i64 b4, .int .i64 b5]] w fun e w' => e = .returned (.int .i64 (dutyF s1 s2 cl x1 x2 ho r1 r2 a4 b4 a5 b5)) ∧ Below w.heap.size w w' :=
  duty_core a0 a1 a2 a3 a4 a5 b0 b1 b2 b3 b4 b5 s1 s2 cl x1 x2 ho r1 r2 _ _ _ _ _ _ _ _ w hS1 hS2 hC hX1 hX2 hH hR1 hR2 (first_any _ _) (first_any _ _) (first_any _ _) (first_any _ _)
end Go.Proofs.Ytfbokdbaondjdaa.Du
/- A region that draws its order, whose operations read, reckon, call, make variables and fill them: what each does is told once, whatever the order. -/
namespace Go.Proofs.Ytfbokdbaondjdaa.Rs
open Go Go.RowKit Go.Proofs.Ytfbokdbaondjdaa.Rg
set_option linter.unusedVariables false
/-- The frame with these slots filled; an operation without a slot fills none. -/
def fillO (a : Act) (ds : List (Option Tmp)) (vs : List Value) : Act := { a with tmps := (ds.zip vs).foldl (fun t x => match x.1 with | some d => t.setIfInBounds d x.2 | none => t) a.tmps }
def step1 (t : Array Value) (x : Option Tmp × Value) : Array Value := match x.1 with | some d => t.setIfInBounds d x.2 | none => t
theorem fold_comm : ∀ (l : List (Option Tmp × Value)) (t : Array Value) (d : Tmp) (v : Value), (∀ x ∈ l, x.1 ≠ some d) → (l.foldl step1 t).setIfInBounds d v = l.foldl step1 (t.setIfInBounds d v) := by
  intro l
  induction l with
  | nil => intro t d v _; rfl
  | cons x l ih =>
    intro t d v h
    simp only [List.foldl_cons]
    rw [ih _ _ _ (fun y hy => h y (List.mem_cons_of_mem _ hy))]
    congr 1
    obtain ⟨xd, xv⟩ := x
    cases xd with
    | none => rfl
    | some e =>
      have hne : e ≠ d := fun he => h _ List.mem_cons_self (by rw [he])
      exact Array.setIfInBounds_comm _ _ hne
theorem fold_set : ∀ {ds : List (Option Tmp)} {vs : List Value} {i : Nat} {d : Option Tmp} {v : Value} {t : Array Value}, (ds.filterMap id).Nodup → vs.length = ds.length → ds[i]? = some d →
    step1 ((ds.zip vs).foldl step1 t) (d, v) = (ds.zip (vs.set i v)).foldl step1 t := by
  intro ds
  induction ds with
  | nil => intro vs i d v t hnd hl hd; simp at hd
  | cons d0 ds ih =>
    intro vs i d v t hnd hl hd
    cases vs with
    | nil => simp at hl
    | cons v0 vs =>
      have hn : (ds.filterMap id).Nodup := by
        cases d0 with
        | none => exact hnd
        | some e => exact (List.nodup_cons.1 hnd).2
      cases i with
      | zero =>
        obtain rfl : d0 = d := by simpa using hd
        simp only [List.zip_cons_cons, List.foldl_cons, List.set_cons_zero]
        cases d0 with
        | none => rfl
        | some e =>
          have hn0 := (List.nodup_cons.1 hnd).1
          show (List.foldl step1 _ _).setIfInBounds e v = _
          rw [fold_comm]
          · simp only [step1, Array.setIfInBounds_setIfInBounds]
          · intro x hx he
            have hm := (List.of_mem_zip hx).1
            rw [he] at hm
            exact hn0 (List.mem_filterMap.2 ⟨_, hm, rfl⟩)
      | succ i =>
        simp only [List.zip_cons_cons, List.foldl_cons, List.set_cons_succ]
        exact ih hn (by simpa using hl) (by simpa using hd)
theorem fillO_set {a : Act} {ds : List (Option Tmp)} {vs : List Value} {i : Nat} {d : Option Tmp} {v : Value} (hnd : (ds.filterMap id).Nodup) (hl : vs.length = ds.length) (hd : ds[i]? = some d) : (fillO a ds vs).put d v = fillO a ds (vs.set i v) := by
  have h := fold_set (v := v) (t := a.tmps) hnd hl hd
  show _ = ({ a with tmps := (ds.zip (vs.set i v)).foldl step1 a.tmps } : Act)
  rw [← h]
  cases d <;> rfl

/-- What an operation does: it yields a value of which p; it makes a variable (type t, as z is), which operation k fills so that q; it fills the variable of operation j. -/
inductive Sp where
  | val (p : Value → Prop)
  | new (t : TypeId) (z : Array Value) (k : Nat) (q : Array Value → Prop)
  | put (j : Nat)
def Sp.isNew : Sp → Bool
  | .new .. => true
  | _ => false
/-- The made variable at g, and what it holds. -/
def At (W0 : World) (w : World) (g : Nat) (t : TypeId) (p : Array Value → Prop) : Prop := W0.heap.size ≤ g ∧ g < w.heap.size ∧ ∃ cs, w.heap[g]? = some (.cells cs t (0, 0)) ∧ p cs
def Have (S : List Sp) (W0 : World) (D : Nat → Bool) (vs : List Value) (w : World) (i : Nat) : Prop :=
  match S[i]? with
  | some (.val p) => p (vs.getD i undef)
  | some (.new t z k q) => ∃ g, vs.getD i undef = .pointer (some ⟨g, 0, none⟩) ∧ At W0 w g t (fun cs => (D k = true → q cs) ∧ (D k = false → cs = z))
  | _ => True
/-- What an operation may lean on of one that it waits for. -/
def Lean1 (S : List Sp) (W0 : World) (vs : List Value) (w : World) (i : Nat) : Prop :=
  match S[i]? with
  | some (.val p) => p (vs.getD i undef)
  | some (.new t z k q) => ∃ g, vs.getD i undef = .pointer (some ⟨g, 0, none⟩) ∧ At W0 w g t (fun cs => cs = z ∨ q cs)
  | some (.put j) => match S[j]? with
    | some (.new t z k q) => ∃ g, vs.getD j undef = .pointer (some ⟨g, 0, none⟩) ∧ At W0 w g t q
    | _ => True
  | none => True
def LeanAll (S : List Sp) (W0 : World) (vs : List Value) (w : World) : List Nat → Prop
  | [] => True
  | j :: js => Lean1 S W0 vs w j ∧ LeanAll S W0 vs w js
theorem leanAll_of {S : List Sp} {W0 : World} {vs : List Value} {w : World} {l : List Nat} (h : ∀ j ∈ l, Lean1 S W0 vs w j) : LeanAll S W0 vs w l := by
  induction l with
  | nil => trivial
  | cons j js ih => exact ⟨h j List.mem_cons_self, ih (fun k hk => h k (List.mem_cons_of_mem _ hk))⟩
/-- One block is changed, and nothing else. -/
structure Filled (w w' : World) (g : Nat) (t : TypeId) (q : Array Value → Prop) : Prop where
  os : w'.os = w.os
  tape : w'.tape = w.tape
  output : w'.output = w.output
  size : w'.heap.size = w.heap.size
  other : ∀ b, b ≠ g → w'.heap[b]? = w.heap[b]?
  here : ∃ cs, w'.heap[g]? = some (.cells cs t (0, 0)) ∧ q cs
section
variable {P : Program} {ops : Array Oper} {Q : Exit → Act → World → Prop}
def OpOk (P : Program) (ops : Array Oper) (Q : Exit → Act → World → Prop) (a0 : Act) (W0 : World) (ds : List (Option Tmp)) (S : List Sp) (o : Oper) (s : Sp) : Prop :=
  ∀ vs : List Value, vs.length = ds.length → ∀ w, Below W0.heap.size W0 w → LeanAll S W0 vs w (deps o) →
    match s with
    | .val p => ∀ K : Act → World → Prop, (∀ v w', Below w.heap.size w w' → p v → K ((fillO a0 ds vs).put o.dst v) w') → Still (if Region.wanted o (yielded ops (fillO a0 ds vs).tmps) = true then o.wp P (fillO a0 ds vs) w K Q else K ((fillO a0 ds vs).put o.dst undef) w)
    | .new t z k q => ∀ K : Act → World → Prop, K ((fillO a0 ds vs).put o.dst (.pointer (some ⟨w.heap.size, 0, none⟩))) (w.alloc (.cells z t)) → Still (if Region.wanted o (yielded ops (fillO a0 ds vs).tmps) = true then o.wp P (fillO a0 ds vs) w K Q else K ((fillO a0 ds vs).put o.dst undef) w)
    | .put j => match S[j]? with
      | some (.new t z k q) => ∀ g, vs.getD j undef = .pointer (some ⟨g, 0, none⟩) → w.heap[g]? = some (.cells z t (0, 0)) → ∀ K : Act → World → Prop, (∀ w', Filled w w' g t q → K (fillO a0 ds vs) w') → Still (if Region.wanted o (yielded ops (fillO a0 ds vs).tmps) = true then o.wp P (fillO a0 ds vs) w K Q else K ((fillO a0 ds vs).put o.dst undef) w)
      | _ => False
def AllOk (P : Program) (ops : Array Oper) (Q : Exit → Act → World → Prop) (a0 : Act) (W0 : World) (ds : List (Option Tmp)) (S : List Sp) : List Oper → List Sp → Prop
  | o :: r, s :: r' => OpOk P ops Q a0 W0 ds S o s ∧ AllOk P ops Q a0 W0 ds S r r'
  | [], [] => True
  | _, _ => False
theorem allOk_at {a0 : Act} {W0 : World} {ds : List (Option Tmp)} {S : List Sp} : ∀ {l : List Oper} {l' : List Sp}, AllOk P ops Q a0 W0 ds S l l' → ∀ (i : Nat) (o : Oper) (s : Sp), l[i]? = some o → l'[i]? = some s → OpOk P ops Q a0 W0 ds S o s := by
  intro l
  induction l with
  | nil => intro l' _ i o s h; simp at h
  | cons o0 r ih =>
    intro l' h i o s ho hs
    cases l' with
    | nil => exact h.elim
    | cons s0 r' =>
      cases i with
      | zero =>
        obtain rfl : o0 = o := by simpa using ho
        obtain rfl : s0 = s := by simpa using hs
        exact h.1
      | succ i => exact ih h.2 i o s (by simpa using ho) (by simpa using hs)
/-- The operations wait for earlier ones alone, each slot is filled once, and made variables and fillings belong together. -/
def okSp (ops : Array Oper) (ds : List (Option Tmp)) (S : List Sp) : Bool :=
  (ops.size == ds.length) && (S.length == ds.length) && (List.range ds.length).all (fun i => match ops[i]? with | some o => (some o.dst == ds[i]?) && o.after.all (fun e => !(Region.binds .any e) || decide (e.on < i)) | none => false) &&
  decide (ds.filterMap id).Nodup &&
  (List.range ds.length).all (fun i => match S[i]? with
    | some (.new t z k q) => (decide (ds.length ≤ k) || (match S[k]? with | some (.put j) => j == i | _ => false))
    | some (.put j) => (ds[i]? == some none) && (match S[j]? with | some (.new t z k q) => k == i | _ => false) && (match ops[i]? with | some o => o.after.any (fun e => Region.binds .any e && e.on == j) | none => false)
    | _ => true)
def Apart (S : List Sp) (vs : List Value) : Prop := ∀ i j, i ≠ j → (match S[i]? with | some s => s.isNew | none => false) = true → (match S[j]? with | some s => s.isNew | none => false) = true → vs.getD i undef ≠ vs.getD j undef
def EndsOk (Q : Exit → Act → World → Prop) (a0 : Act) (W0 : World) (ds : List (Option Tmp)) (S : List Sp) : Prop :=
  ∀ vs : List Value, vs.length = ds.length → ∀ w, Below W0.heap.size W0 w → LeanAll S W0 vs w (seqO 0 ds) → Apart S vs → Q .normal (fillO a0 ds vs) w
where seqO : Nat → List (Option Tmp) → List Nat
  | _, [] => []
  | k, _ :: r => k :: seqO (k + 1) r
theorem mem_seqO : ∀ {ds : List (Option Tmp)} {k j : Nat}, j ∈ EndsOk.seqO k ds → k ≤ j ∧ j < k + ds.length := by
  intro ds
  induction ds with
  | nil => intro k j h; cases h
  | cons d r ih =>
    intro k j h
    rcases List.mem_cons.1 h with rfl | h
    · simp
    · have := ih h
      simp only [List.length_cons]
      omega
theorem dSet_self {l : Array Bool} {i : Nat} (h : i < l.size) : (l.setIfInBounds i true).getD i false = true := by simp [Array.getD, h]
theorem dSet_ne {l : Array Bool} {i j : Nat} (h : i ≠ j) : (l.setIfInBounds i true).getD j false = l.getD j false := getD_set_ne false h
theorem dOut {l : Array Bool} {i : Nat} (h : l.size ≤ i) : l.getD i false = false := by simp [Array.getD, Nat.not_lt.2 h]
structure Inv (S : List Sp) (W0 : World) (n : Nat) (listed : Array Bool) (vs : List Value) (w : World) : Prop where
  below : Below W0.heap.size W0 w
  have_ : ∀ j, j < n → listed.getD j false = true → Have S W0 (fun k => listed.getD k false) vs w j
  apart : ∀ i j, i ≠ j → listed.getD i false = true → listed.getD j false = true → (match S[i]? with | some s => s.isNew | none => false) = true → (match S[j]? with | some s => s.isNew | none => false) = true → vs.getD i undef ≠ vs.getD j undef
  putAfter : ∀ k j : Nat, S[k]? = some (Sp.put j) → listed.getD k false = true → listed.getD j false = true
theorem getD_setSelf {vs : List Value} {i : Nat} {v : Value} (h : i < vs.length) : (vs.set i v).getD i undef = v := by
  rw [List.getD_eq_getElem?_getD, List.getElem?_set_self h]; rfl
theorem getD_setNe {vs : List Value} {i j : Nat} {v : Value} (h : i ≠ j) : (vs.set i v).getD j undef = vs.getD j undef := by
  rw [List.getD_eq_getElem?_getD, List.getElem?_set_ne h, ← List.getD_eq_getElem?_getD]
theorem at_below {W0 w w' : World} {g : Nat} {t : TypeId} {p p' : Array Value → Prop} (h : At W0 w g t p) (hb : Below w.heap.size w w') (hp : ∀ cs, p cs → p' cs) : At W0 w' g t p' := by
  obtain ⟨h1, h2, cs, h3, h4⟩ := h
  exact ⟨h1, Nat.lt_of_lt_of_le h2 hb.size, cs, (hb.block g h2).trans h3, hp _ h4⟩
/-- What holds after a step that keeps all blocks. -/
theorem inv_val {S : List Sp} {W0 : World} {n : Nat} {listed : Array Bool} {vs : List Value} {w w' : World} {i : Nat} {v : Value} (hI : Inv S W0 n listed vs w) (hin : i < n) (hln : listed.size = n) (hvn : vs.length = n)
    (hb : Below w.heap.size w w') (hS : (match S[i]? with | some s => s.isNew | none => false) = false) (hk : ∀ (j : Nat) t z k q, S[j]? = some (Sp.new t z k q) → k ≠ i) (hpp : ∀ j, S[i]? ≠ some (Sp.put j)) (hp : ∀ p, S[i]? = some (Sp.val p) → p v) : Inv S W0 n (listed.setIfInBounds i true) (vs.set i v) w' := by
  refine ⟨hI.below.trans (hb.mono hI.below.size), fun j hj hjl => ?_, fun a b hab ha hb' hna hnb => ?_, fun k j hkj hkl => ?_⟩
  · by_cases hji : i = j
    · subst hji
      unfold Have
      cases hSi : S[i]? with
      | none => trivial
      | some s =>
        cases s with
        | val p => simp only; rw [getD_setSelf (by omega)]; exact hp p hSi
        | new t z k q => rw [hSi] at hS; cases hS
        | put j => exact trivial
    · have h := hI.have_ j hj ((dSet_ne hji).symm.trans hjl)
      unfold Have at h ⊢
      rw [getD_setNe hji]
      cases hSj : S[j]? with
      | none => trivial
      | some s =>
        rw [hSj] at h
        cases s with
        | val p => exact h
        | new t z k q =>
          obtain ⟨g, h1, h2⟩ := h
          refine ⟨g, h1, at_below h2 hb fun cs hc => ?_⟩
          have e := dSet_ne (l := listed) (Ne.symm (hk j t z k q hSj))
          exact ⟨fun h => hc.1 (e.symm.trans h), fun h => hc.2 (e.symm.trans h)⟩
        | put j => exact trivial
  · have hia : i ≠ a := fun h => by subst h; rw [hS] at hna; cases hna
    have hib : i ≠ b := fun h => by subst h; rw [hS] at hnb; cases hnb
    rw [getD_setNe hia, getD_setNe hib]
    exact hI.apart a b hab ((dSet_ne hia).symm.trans ha) ((dSet_ne hib).symm.trans hb') hna hnb
  · by_cases hik : i = k
    · subst hik; exact absurd hkj (hpp j)
    · have h := hI.putAfter k j hkj ((dSet_ne hik).symm.trans hkl)
      by_cases hij : i = j
      · subst hij; exact dSet_self (by omega)
      · exact (dSet_ne hij).trans h
theorem inv_new {S : List Sp} {W0 : World} {n : Nat} {listed : Array Bool} {vs : List Value} {w : World} {i : Nat} {t : TypeId} {z : Array Value} {k : Nat} {q : Array Value → Prop} (hI : Inv S W0 n listed vs w) (hin : i < n) (hln : listed.size = n) (hvn : vs.length = n) (hun : listed.getD i false = false)
    (hS : S[i]? = some (.new t z k q)) (hk : ∀ (j : Nat) t z k q, S[j]? = some (Sp.new t z k q) → k ≠ i) (hput : n ≤ k ∨ S[k]? = some (.put i)) : Inv S W0 n (listed.setIfInBounds i true) (vs.set i (.pointer (some ⟨w.heap.size, 0, none⟩))) (w.alloc (.cells z t)) := by
  have hb : Below w.heap.size w (w.alloc (.cells z t)) := (Below.refl w.heap.size w).alloc (Nat.le_refl _) _
  have hold : ∀ j, j < n → listed.getD j false = true → (match S[j]? with | some s => s.isNew | none => false) = true → ∃ g, vs.getD j undef = .pointer (some ⟨g, 0, none⟩) ∧ g < w.heap.size := fun j hj hjl hn => by
    have h := hI.have_ j hj hjl
    unfold Have at h
    cases hSj : S[j]? with
    | none => rw [hSj] at hn; cases hn
    | some s =>
      rw [hSj] at h hn
      cases s with
      | val p => cases hn
      | put j => cases hn
      | new t z k q => obtain ⟨g, h1, h2⟩ := h; exact ⟨g, h1, h2.2.1⟩
  have hlt : ∀ j, (match S[j]? with | some s => s.isNew | none => false) = true → listed.getD j false = true → j < n := fun j _ hl => by
    rcases Nat.lt_or_ge j n with h | h
    · exact h
    · rw [dOut (by omega)] at hl; cases hl
  refine ⟨hI.below.trans (hb.mono hI.below.size), fun j hj hjl => ?_, fun a b hab ha hb' hna hnb => ?_, fun k' j hkj hkl => ?_⟩
  · by_cases hji : i = j
    · subst hji
      unfold Have
      rw [hS]
      refine ⟨w.heap.size, getD_setSelf (by omega), hI.below.size, by simp, z, by simpa using heap_alloc_new w _, ?_⟩
      have hkf : (listed.setIfInBounds i true).getD k false = false := by
        rw [dSet_ne (Ne.symm (hk i t z k q hS))]
        rcases hput with h | h
        · exact dOut (by omega)
        · cases hc : listed.getD k false with
          | false => rfl
          | true => have := hI.putAfter k i h hc; rw [hun] at this; cases this
      exact ⟨fun h => (by have h' : (listed.setIfInBounds i true).getD k false = true := h; rw [hkf] at h'; cases h'), fun _ => rfl⟩
    · have h := hI.have_ j hj ((dSet_ne hji).symm.trans hjl)
      unfold Have at h ⊢
      rw [getD_setNe hji]
      cases hSj : S[j]? with
      | none => trivial
      | some s =>
        rw [hSj] at h
        cases s with
        | val p => exact h
        | new t z k q =>
          obtain ⟨g, h1, h2⟩ := h
          refine ⟨g, h1, at_below h2 hb fun cs hc => ?_⟩
          have e := dSet_ne (l := listed) (Ne.symm (hk j t z k q hSj))
          exact ⟨fun h => hc.1 (e.symm.trans h), fun h => hc.2 (e.symm.trans h)⟩
        | put j => exact trivial
  · by_cases hia : i = a
    · subst hia
      rw [getD_setSelf (by omega), getD_setNe hab]
      have hbl := (dSet_ne hab).symm.trans hb'
      obtain ⟨g, h1, h2⟩ := hold b (hlt b hnb hbl) hbl hnb
      rw [h1]
      intro he
      injection he with he
      injection he with he
      injection he with he _
      omega
    · by_cases hib : i = b
      · subst hib
        rw [getD_setSelf (by omega), getD_setNe hia]
        have hal := (dSet_ne hia).symm.trans ha
        obtain ⟨g, h1, h2⟩ := hold a (hlt a hna hal) hal hna
        rw [h1]
        intro he
        injection he with he
        injection he with he
        injection he with he _
        omega
      · rw [getD_setNe hia, getD_setNe hib]
        exact hI.apart a b hab ((dSet_ne hia).symm.trans ha) ((dSet_ne hib).symm.trans hb') hna hnb
  · have hik : i ≠ k' := fun h => by subst h; rw [hS] at hkj; cases hkj
    have h := hI.putAfter k' j hkj ((dSet_ne hik).symm.trans hkl)
    by_cases hij : i = j
    · subst hij; exact dSet_self (by omega)
    · exact (dSet_ne hij).trans h
theorem inv_put {S : List Sp} {W0 : World} {n : Nat} {listed : Array Bool} {vs : List Value} {w w' : World} {i j g : Nat} {t : TypeId} {z : Array Value} {q : Array Value → Prop} (hI : Inv S W0 n listed vs w) (hin : i < n) (hln : listed.size = n) (hvn : vs.length = n)
    (hS : S[i]? = some (.put j)) (hSj : S[j]? = some (.new t z i q)) (hk : ∀ (j' : Nat) t z k q, S[j']? = some (Sp.new t z k q) → k = i → j' = j) (hdj : listed.getD j false = true) (hg : vs.getD j undef = .pointer (some ⟨g, 0, none⟩)) (hg0 : W0.heap.size ≤ g) (hf : Filled w w' g t q) : Inv S W0 n (listed.setIfInBounds i true) vs w' := by
  refine ⟨⟨hf.os.trans hI.below.os, hf.tape.trans hI.below.tape, hf.output.trans hI.below.output, by rw [hf.size]; exact hI.below.size, fun b hb => (hf.other b (by omega)).trans (hI.below.block b hb)⟩, fun m hm hml => ?_, fun a b hab ha hb' hna hnb => ?_, fun k' m hkm hkl => ?_⟩
  · by_cases hmi : i = m
    · subst hmi; unfold Have; rw [hS]; trivial
    · have hmd := (dSet_ne hmi).symm.trans hml
      have h := hI.have_ m hm hmd
      unfold Have at h ⊢
      cases hSm : S[m]? with
      | none => trivial
      | some s =>
        rw [hSm] at h
        cases s with
        | val p => exact h
        | put _ => exact trivial
        | new t' z' k' q' =>
          obtain ⟨g', h1, h2, h3, cs, h4, h5⟩ := h
          refine ⟨g', h1, h2, by rw [hf.size]; exact h3, ?_⟩
          by_cases hmj : m = j
          · subst hmj
            rw [hSj] at hSm
            cases hSm
            rw [hg] at h1
            cases h1
            obtain ⟨cs', h6, h7⟩ := hf.here
            exact ⟨cs', h6, fun _ => h7, fun h => (by have h' : (listed.setIfInBounds i true).getD i false = false := h; rw [dSet_self (by omega)] at h'; cases h')⟩
          · have hne : g' ≠ g := by
              rintro rfl
              exact hI.apart m j hmj hmd hdj (by rw [hSm]; rfl) (by rw [hSj]; rfl) (h1.trans hg.symm)
            refine ⟨cs, (hf.other g' hne).trans h4, ?_⟩
            have hki : i ≠ k' := fun h => hmj (hk m t' z' k' q' hSm h.symm)
            have e := dSet_ne (l := listed) hki
            exact ⟨fun h => h5.1 (e.symm.trans h), fun h => h5.2 (e.symm.trans h)⟩
  · have hia : i ≠ a := fun h => by subst h; rw [hS] at hna; cases hna
    have hib : i ≠ b := fun h => by subst h; rw [hS] at hnb; cases hnb
    exact hI.apart a b hab ((dSet_ne hia).symm.trans ha) ((dSet_ne hib).symm.trans hb') hna hnb
  · by_cases hik : i = k'
    · subst hik
      rw [hS] at hkm
      cases hkm
      by_cases hij : i = j
      · subst hij; exact dSet_self (by omega)
      · exact (dSet_ne hij).trans hdj
    · have h := hI.putAfter k' m hkm ((dSet_ne hik).symm.trans hkl)
      by_cases him : i = m
      · subst him; exact dSet_self (by omega)
      · exact (dSet_ne him).trans h
theorem lean_of {S : List Sp} {W0 : World} {n : Nat} {listed : Array Bool} {vs : List Value} {w : World} (hI : Inv S W0 n listed vs w) (hln : listed.size = n)
    (hput : ∀ k j : Nat, S[k]? = some (Sp.put j) → ∃ t z q, S[j]? = some (Sp.new t z k q)) (j : Nat) (hj : listed.getD j false = true) : Lean1 S W0 vs w j := by
  have hlt : ∀ j, listed.getD j false = true → j < n := fun j hl => by
    rcases Nat.lt_or_ge j n with h | h
    · exact h
    · rw [dOut (by omega)] at hl; cases hl
  have h := hI.have_ j (hlt j hj) hj
  unfold Lean1
  unfold Have at h
  cases hSj : S[j]? with
  | none => trivial
  | some s =>
    rw [hSj] at h
    cases s with
    | val p => exact h
    | new t z k q =>
      obtain ⟨g, h1, h2, h3, cs, h4, h5⟩ := h
      refine ⟨g, h1, h2, h3, cs, h4, ?_⟩
      cases hd : listed.getD k false with
      | true => exact .inr (h5.1 hd)
      | false => exact .inl (h5.2 hd)
    | put m =>
      obtain ⟨t, z, q, hSm⟩ := hput j m hSj
      simp only
      rw [hSm]
      have hmd := hI.putAfter j m hSj hj
      have h' := hI.have_ m (hlt m hmd) hmd
      unfold Have at h'
      rw [hSm] at h'
      obtain ⟨g, h1, h2, h3, cs, h4, h5⟩ := h'
      exact ⟨g, h1, h2, h3, cs, h4, h5.1 hj⟩
theorem region_sp {id : Nat} {l : List Oper} {a0 : Act} {w0 : World} (hm : P.follows .mixedOrders = true) (ds : List (Option Tmp)) (vs0 : List Value) (S : List Sp)
    (hds : okSp l.toArray ds S = true) (hvs0 : vs0.length = ds.length) (ha0 : fillO a0 ds vs0 = a0) (h : AllOk P l.toArray Q a0 w0.drew ds S l S) (he : EndsOk Q a0 w0.drew ds S) : (Code.region id l.toArray true).wp P Q a0 w0 := by
  have hat := allOk_at h
  unfold okSp at hds
  simp only [Bool.and_eq_true, beq_iff_eq, decide_eq_true_eq] at hds
  obtain ⟨⟨⟨⟨hsz, hsl⟩, hall⟩, hnd⟩, hcon⟩ := hds
  have hput : ∀ k j : Nat, S[k]? = some (Sp.put j) → k < ds.length ∧ ds[k]? = some none ∧ (∃ t z q, S[j]? = some (Sp.new t z k q)) ∧ (∀ o, l[k]? = some o → ∃ e ∈ o.after, Region.binds .any e = true ∧ e.on = j) := fun k j hk => by
    have hkl : k < ds.length := by
      have := (List.getElem?_eq_some_iff.1 hk).1
      omega
    have h1 := List.all_eq_true.1 hcon k (List.mem_range.2 hkl)
    rw [hk] at h1
    simp only [Bool.and_eq_true, beq_iff_eq] at h1
    refine ⟨hkl, h1.1.1, ?_, fun o ho => ?_⟩
    · have h2 := h1.1.2
      cases hj : S[j]? with
      | none => rw [hj] at h2; cases h2
      | some s =>
        rw [hj] at h2
        cases s with
        | val p => cases h2
        | put m => cases h2
        | new t z k' q =>
          obtain rfl : k' = k := by simpa using h2
          exact ⟨t, z, q, rfl⟩
    · have h2 := h1.2
      rw [show l.toArray[k]? = some o by simpa using ho] at h2
      obtain ⟨e, hem, hh⟩ := Array.any_eq_true'.1 h2
      simp only [Bool.and_eq_true, beq_iff_eq] at hh
      exact ⟨e, hem, hh.1, hh.2⟩
  have hnew : ∀ (j : Nat) t z k q, S[j]? = some (Sp.new t z k q) → ds.length ≤ k ∨ S[k]? = some (Sp.put j) := fun j t z k q hj => by
    have hjl : j < ds.length := by
      have := (List.getElem?_eq_some_iff.1 hj).1
      omega
    have h1 := List.all_eq_true.1 hcon j (List.mem_range.2 hjl)
    rw [hj] at h1
    simp only [Bool.or_eq_true, decide_eq_true_eq] at h1
    rcases h1 with h1 | h1
    · exact .inl h1
    · cases hk : S[k]? with
      | none => rw [hk] at h1; cases h1
      | some s =>
        rw [hk] at h1
        cases s with
        | val p => cases h1
        | new _ _ _ _ => cases h1
        | put m =>
          obtain rfl : m = j := by simpa using h1
          exact .inr rfl
  refine wp_region_any hm ?_
  have hTF : ∀ (listed : Array Bool) (j : Nat), listed.getD j true = true → j < listed.size → listed.getD j false = true := fun listed j h h' => by
    simpa [Array.getD, h'] using h
  refine wpAny_inv (I := fun listed a w => listed.size = l.toArray.size ∧ ∃ vs, vs.length = ds.length ∧ a = fillO a0 ds vs ∧ Inv S w0.drew ds.length listed vs w) ?_ ?_ _ _ _ _ (by simp) ?_ ?_
  · intro listed a w hI i hi
    obtain ⟨hln, vs, hl, rfl, hI⟩ := hI
    obtain ⟨hun, oi, hoi, haft⟩ := mem_ready.1 hi
    have hio : i < l.toArray.size := (Array.getElem?_eq_some_iff.1 hoi).1
    have hid : i < ds.length := by omega
    have hoi' : l[i]? = some oi := by simpa using hoi
    have hunf : listed.getD i false = false := by
      cases hc : listed.getD i false with
      | false => rfl
      | true =>
        have : listed.getD i true = true := by
          have hi' : i < listed.size := by omega
          simpa [Array.getD, hi'] using hc
        rw [hun] at this; cases this
    have h1 := List.all_eq_true.1 hall i (List.mem_range.2 hid)
    rw [hoi] at h1
    simp only [Bool.and_eq_true, beq_iff_eq] at h1
    obtain ⟨hdst, hon⟩ := h1
    have hdi : ds[i]? = some oi.dst := hdst.symm
    have hS : ∃ s, S[i]? = some s := ⟨S[i], List.getElem?_eq_getElem (by omega)⟩
    obtain ⟨s, hSi⟩ := hS
    have hdone : ∀ e ∈ oi.after, Region.binds .any e = true → listed.getD e.on false = true := fun e hem hbd => haft e hem hbd
    have hlean : LeanAll S w0.drew vs w (deps oi) := leanAll_of fun j hj => by
      obtain ⟨e, he1, rfl⟩ := List.mem_map.1 hj
      obtain ⟨he1, he2⟩ := List.mem_filter.1 he1
      exact lean_of hI (by omega) (fun k j hk => (hput k j hk).2.2.1) _ (hdone e (by simpa using he1) he2)
    have hok := hat i oi s hoi' hSi vs hl w hI.below hlean
    have hkne : ∀ s', S[i]? = some s' → (∀ m, s' ≠ Sp.put m) → ∀ (j : Nat) t z k q, S[j]? = some (Sp.new t z k q) → k ≠ i := fun s' hs' hnp j t z k q hj he => by
      subst he
      rcases hnew j t z k q hj with h | h
      · omega
      · rw [hs'] at h
        exact hnp j (Option.some.inj h)
    unfold wpOp
    rw [hoi]
    simp only
    have hs : Still (if Region.wanted oi (yielded l.toArray (fillO a0 ds vs).tmps) = true then oi.wp P (fillO a0 ds vs) w (fun a' w' => (listed.setIfInBounds i true).size = l.toArray.size ∧ ∃ vs, vs.length = ds.length ∧ a' = fillO a0 ds vs ∧ Inv S w0.drew ds.length (listed.setIfInBounds i true) vs w') Q
        else (listed.setIfInBounds i true).size = l.toArray.size ∧ ∃ vs', vs'.length = ds.length ∧ (fillO a0 ds vs).put oi.dst undef = fillO a0 ds vs' ∧ Inv S w0.drew ds.length (listed.setIfInBounds i true) vs' w) := by
      cases s with
      | val p =>
        refine hok (fun a' w' => (listed.setIfInBounds i true).size = l.toArray.size ∧ ∃ vs, vs.length = ds.length ∧ a' = fillO a0 ds vs ∧ Inv S w0.drew ds.length (listed.setIfInBounds i true) vs w') (fun v w' hb hp => ⟨by simpa using hln, vs.set i v, by simpa using hl, fillO_set hnd hl hdi, ?_⟩)
        exact inv_val hI hid (by omega) hl hb (by rw [hSi]; rfl) (hkne _ hSi (fun m h => by cases h)) (fun j h => by rw [hSi] at h; cases h) (fun p' h => by rw [hSi] at h; cases h; exact hp)
      | new t z k q =>
        refine hok (fun a' w' => (listed.setIfInBounds i true).size = l.toArray.size ∧ ∃ vs, vs.length = ds.length ∧ a' = fillO a0 ds vs ∧ Inv S w0.drew ds.length (listed.setIfInBounds i true) vs w') ⟨by simpa using hln, vs.set i _, by simpa using hl, fillO_set hnd hl hdi, ?_⟩
        exact inv_new hI hid (by omega) hl hunf hSi (hkne _ hSi (fun m h => by cases h)) (hnew i t z k q hSi)
      | put j =>
        obtain ⟨hkl, hdk, ⟨t, z, q, hSj⟩, hed⟩ := hput i j hSi
        obtain ⟨e, hem, hbd, hej⟩ := hed oi hoi'
        have hdj := hdone e hem hbd
        rw [hej] at hdj
        have hjd : j < ds.length := by
          rcases Nat.lt_or_ge j ds.length with h | h
          · exact h
          · rw [dOut (by omega)] at hdj; cases hdj
        have hhave := hI.have_ j hjd hdj
        unfold Have at hhave
        rw [hSj] at hhave
        obtain ⟨g, hg, hg0, hg1, cs, hcs, hz⟩ := hhave
        obtain rfl := hz.2 hunf
        simp only at hok
        rw [hSj] at hok
        simp only at hok
        refine hok g hg hcs (fun a' w' => (listed.setIfInBounds i true).size = l.toArray.size ∧ ∃ vs, vs.length = ds.length ∧ a' = fillO a0 ds vs ∧ Inv S w0.drew ds.length (listed.setIfInBounds i true) vs w') (fun w' hf => ⟨by simpa using hln, vs, hl, rfl, ?_⟩)
        refine inv_put hI hid (by omega) hl hSi hSj (fun j' t' z' k' q' hj' hk' => ?_) hdj hg hg0 hf
        rcases hnew j' t' z' k' q' hj' with h | h
        · omega
        · rw [hk', hSi] at h
          cases h
          rfl
    have hs := hs.out
    by_cases hwt : Region.wanted oi (yielded l.toArray (fillO a0 ds vs).tmps) = true
    · rw [if_pos hwt] at hs ⊢
      exact .inl hs
    · rw [if_neg hwt] at hs ⊢
      exact hs
  · intro listed a w hI hr
    obtain ⟨hln, vs, hl, rfl, hI⟩ := hI
    have hdone : ∀ m, m < ds.length → listed.getD m false = true := by
      intro m hm2
      refine Classical.byContradiction fun hn => ?_
      have hn' : listed.getD m false = false := by simpa using hn
      have hleast : ∀ m, m < ds.length → listed.getD m false = false → ∃ i, i < ds.length ∧ listed.getD i false = false ∧ ∀ j, j < i → listed.getD j false = true := by
        intro m
        induction m using Nat.strongRecOn with
        | _ m ih =>
          intro hm hmf
          by_cases hex : ∃ j, j < m ∧ listed.getD j false = false
          · obtain ⟨j, hj, hjf⟩ := hex
            exact ih j hj (by omega) hjf
          · refine ⟨m, hm, hmf, fun j hj => ?_⟩
            cases hb : listed.getD j false with
            | true => rfl
            | false => exact absurd ⟨j, hj, hb⟩ hex
      obtain ⟨i, hid, hif, hil⟩ := hleast _ hm2 hn'
      have hio : i < l.toArray.size := by omega
      have hil' : i < listed.size := by omega
      have hif' : listed.getD i true = false := by simpa [Array.getD, hil'] using hif
      have hmem : i ∈ Region.ready .any l.toArray listed := by
        refine mem_ready.2 ⟨hif', l.toArray[i], Array.getElem?_eq_getElem hio, fun e he hbd => hil e.on ?_⟩
        have h1 := List.all_eq_true.1 hall i (List.mem_range.2 hid)
        rw [Array.getElem?_eq_getElem hio] at h1
        simp only [Bool.and_eq_true] at h1
        have := Array.all_eq_true_iff_forall_mem.1 h1.2 e he
        rw [hbd] at this
        simpa using this
      rw [hr] at hmem
      cases hmem
    refine he vs hl w hI.below (leanAll_of fun j hj => lean_of hI (by omega) (fun k j hk => (hput k j hk).2.2.1) _ (hdone j (by have := (mem_seqO hj).2; omega))) fun i j hij hi hj => ?_
    have hlt : ∀ i, (match S[i]? with | some s => s.isNew | none => false) = true → i < ds.length := fun i hi => by
      rcases Nat.lt_or_ge i ds.length with h | h
      · exact h
      · rw [List.getElem?_eq_none (by omega)] at hi; cases hi
    exact hI.apart i j hij (hdone i (hlt i hi)) (hdone j (hlt j hj)) hi hj
  · unfold left
    exact Nat.le_trans List.countP_le_length (by simp)
  · have hf : ∀ j, (Array.replicate l.toArray.size false).getD j false = false := fun j => by
      rcases Nat.lt_or_ge j l.toArray.size with h | h
      · have h' : j < (Array.replicate l.toArray.size false).size := by simpa using h
        simp only [Array.getD, h', dif_pos]
        exact Array.getElem_replicate ..
      · exact dOut (by simpa using h)
    refine ⟨by simp, vs0, hvs0, ha0.symm, Below.refl _ _, fun j hj hjl => ?_, fun i j _ hi _ _ _ => ?_, fun k j _ hk => ?_⟩
    · rw [hf j] at hjl; cases hjl
    · rw [hf i] at hi; cases hi
    · rw [hf k] at hk; cases hk
end
/-! ### Blocks -/
/-- The variable at block g. -/
structure Blk (w : World) (g : Nat) (t : TypeId) (cs : Array Value) : Prop where out : w.heap[g]? = some (.cells cs t (0, 0))
theorem Blk.lt {w : World} {g : Nat} {t : TypeId} {cs : Array Value} (h : Blk w g t cs) : g < w.heap.size := (Array.getElem?_eq_some_iff.1 h.out).1
theorem Blk.below {w w1 : World} {g : Nat} {t : TypeId} {cs : Array Value} (h : Blk w g t cs) (hb : Below w.heap.size w w1) : Blk w1 g t cs := ⟨(hb.block g h.lt).trans h.out⟩
theorem Blk.drewN {w : World} {g : Nat} {t : TypeId} {cs : Array Value} (h : Blk w g t cs) (n : Nat) : Blk (w.drewN n) g t cs := ⟨h.out⟩
theorem Blk.drew {w : World} {g : Nat} {t : TypeId} {cs : Array Value} (h : Blk w g t cs) : Blk w.drew g t cs := ⟨h.out⟩
theorem Blk.cell {w : World} {g : Nat} {t : TypeId} {cs : Array Value} (h : Blk w g t cs) (i : Nat) : w.cell? ⟨g, i, none⟩ = cs[i]? := by simp [World.cell?, h.out]
theorem Blk.free {w : World} {g : Nat} {t : TypeId} {cs : Array Value} (h : Blk w g t cs) (i : Nat) : w.frozen? ⟨g, i, none⟩ = false := by simp [World.frozen?, h.out]
theorem Blk.one {w : World} {g : Nat} {t : TypeId} {a : Value} (h : Blk w g t #[a]) : w.cell? ⟨g, 0, none⟩ = some a := h.cell 0
theorem Blk.two {w : World} {g : Nat} {t : TypeId} {a b : Value} (h : Blk w g t #[a, b]) : w.cell? ⟨g, 0, none⟩ = some a ∧ w.cell? ⟨g, 1, none⟩ = some b := ⟨h.cell 0, h.cell 1⟩


theorem Blk.six {w : World} {g : Nat} {t : TypeId} {a b c d e f : Value} (h : Blk w g t #[a, b, c, d, e, f]) : w.cell? ⟨g, 0, none⟩ = some a ∧ w.cell? ⟨g, 1, none⟩ = some b ∧ w.cell? ⟨g, 2, none⟩ = some c ∧ w.cell? ⟨g, 3, none⟩ = some d ∧ w.cell? ⟨g, 4, none⟩ = some e ∧ w.cell? ⟨g, 5, none⟩ = some f :=
  ⟨h.cell 0, h.cell 1, h.cell 2, h.cell 3, h.cell 4, h.cell 5⟩
theorem Blk.new (w : World) (t : TypeId) (cs : Array Value) : Blk (w.alloc (.cells cs t)) w.heap.size t cs := ⟨heap_alloc_new w _⟩
theorem Blk.newAt {w : World} {g : Nat} (t : TypeId) (cs : Array Value) (h : g = w.heap.size) : Blk (w.alloc (.cells cs t)) g t cs := by subst h; exact Blk.new w t cs
theorem Blk.alloc {w : World} {g : Nat} {t : TypeId} {cs : Array Value} (h : Blk w g t cs) (o : Obj) : Blk (w.alloc o) g t cs := h.below ((Below.refl w.heap.size w).alloc (Nat.le_refl _) o)
theorem Blk.far {w : World} {g b i : Nat} {t : TypeId} {cs : Array Value} (h : Blk w g t cs) (v : Value) (hne : g ≠ b) : Blk (w.setCell ⟨b, i, none⟩ v) g t cs := ⟨(Below.heap_setCell w ⟨b, i, none⟩ v g hne).trans h.out⟩
theorem Blk.set {w : World} {g : Nat} {t : TypeId} {cs : Array Value} (h : Blk w g t cs) (i : Nat) (v : Value) : Blk (w.setCell ⟨g, i, none⟩ v) g t (cs.setIfInBounds i v) := ⟨by simp [World.setCell, Array.getElem?_modify, h.out]⟩
theorem setCell_size (w : World) (p : Addr) (v : Value) : (w.setCell p v).heap.size = w.heap.size := by simp [World.setCell]
/-- Several cells of one block set, one after another. -/
def setAll (w : World) (g : Nat) : Nat → List Value → World
  | _, [] => w
  | i, v :: r => setAll (w.setCell ⟨g, i, none⟩ v) g (i + 1) r
theorem setAll_same (g : Nat) : ∀ (l : List Value) (i : Nat) (w : World), (setAll w g i l).os = w.os ∧ (setAll w g i l).tape = w.tape ∧ (setAll w g i l).output = w.output ∧ (setAll w g i l).heap.size = w.heap.size ∧ ∀ b, b ≠ g → (setAll w g i l).heap[b]? = w.heap[b]? := by
  intro l
  induction l with
  | nil => intro i w; exact ⟨rfl, rfl, rfl, rfl, fun _ _ => rfl⟩
  | cons v r ih =>
    intro i w
    obtain ⟨h1, h2, h3, h4, h5⟩ := ih (i + 1) (w.setCell ⟨g, i, none⟩ v)
    exact ⟨h1, h2, h3, h4.trans (setCell_size _ _ _), fun b hb => (h5 b hb).trans (Below.heap_setCell w ⟨g, i, none⟩ v b hb)⟩
theorem filled2 {w : World} {g : Nat} {t : TypeId} {a b x y : Value} {q : Array Value → Prop} (h : w.heap[g]? = some (.cells #[a, b] t (0, 0))) (hq : q #[x, y]) : Filled w ((w.setCell ⟨g, 0, none⟩ x).setCell ⟨g, 1, none⟩ y) g t q := by
  obtain ⟨h1, h2, h3, h4, h5⟩ := setAll_same g [x, y] 0 w
  exact ⟨h1, h2, h3, h4, h5, #[x, y], (((Blk.mk h).set 0 x).set 1 y).out, hq⟩

theorem Filled.blk {w w' : World} {g : Nat} {t : TypeId} {cs : Array Value} (h : Filled w w' g t (fun c => c = cs)) : Blk w' g t cs := by
  obtain ⟨c, h1, rfl⟩ := h.here
  exact ⟨h1⟩
/-- What was filled is new: what was there stands. -/
theorem Filled.below {w w' : World} {g B : Nat} {t : TypeId} {q : Array Value → Prop} (h : Filled w w' g t q) (hg : B ≤ g) : Below B w w' := ⟨h.os, h.tape, h.output, by rw [h.size]; exact Nat.le_refl _, fun k hk => h.other k (by omega)⟩


/-! ### Filling, step by step -/
theorem fs (a : Act) (d : Tmp) (ds : List (Option Tmp)) (v : Value) (vs : List Value) : fillO a (some d :: ds) (v :: vs) = fillO (a.put (some d) v) ds vs := rfl
theorem fo (a : Act) (ds : List (Option Tmp)) (v : Value) (vs : List Value) : fillO a (none :: ds) (v :: vs) = fillO a ds vs := rfl
theorem fz (a : Act) (vs : List Value) : fillO a [] vs = a := rfl
theorem s1 {α : Type} (l : List α) (i : Nat) (a : α) : l.toArray.setIfInBounds i a = (l.set i a).toArray := List.setIfInBounds_toArray l i a
theorem s2 {α : Type} (l : List α) (a b : α) : (b :: l).set 0 a = a :: l := rfl
theorem s3 {α : Type} (l : List α) (a b : α) (n : Nat) : (b :: l).set (n + 1) a = b :: l.set n a := rfl
/-! ### More lengths -/
theorem len27 {vs : List Value} (h : vs.length = 27) : ∃ v0 v1 v2 v3 v4 v5 v6 v7 v8 v9 v10 v11 v12 v13 v14 v15 v16 v17 v18 v19 v20 v21 v22 v23 v24 v25 v26, vs = [v0, v1, v2, v3, v4, v5, v6, v7, v8, v9, v10, v11, v12, v13, v14, v15, v16, v17, v18, v19, v20, v21, v22, v23, v24, v25, v26] := by
  match vs, h with
  | v :: r, h =>
    obtain ⟨v0, v1, v2, v3, v4, v5, v6, v7, v8, v9, v10, v11, v12, v13, v14, v15, v16, v17, v18, v19, v20, v21, v22, v23, v24, v25, rfl⟩ := len26 (vs := r) (by simpa using h)
    exact ⟨v, v0, v1, v2, v3, v4, v5, v6, v7, v8, v9, v10, v11, v12, v13, v14, v15, v16, v17, v18, v19, v20, v21, v22, v23, v24, v25, rfl⟩
theorem len28 {vs : List Value} (h : vs.length = 28) : ∃ v0 v1 v2 v3 v4 v5 v6 v7 v8 v9 v10 v11 v12 v13 v14 v15 v16 v17 v18 v19 v20 v21 v22 v23 v24 v25 v26 v27, vs = [v0, v1, v2, v3, v4, v5, v6, v7, v8, v9, v10, v11, v12, v13, v14, v15, v16, v17, v18, v19, v20, v21, v22, v23, v24, v25, v26, v27] := by
  match vs, h with
  | v :: r, h =>
    obtain ⟨v0, v1, v2, v3, v4, v5, v6, v7, v8, v9, v10, v11, v12, v13, v14, v15, v16, v17, v18, v19, v20, v21, v22, v23, v24, v25, v26, rfl⟩ := len27 (vs := r) (by simpa using h)
    exact ⟨v, v0, v1, v2, v3, v4, v5, v6, v7, v8, v9, v10, v11, v12, v13, v14, v15, v16, v17, v18, v19, v20, v21, v22, v23, v24, v25, v26, rfl⟩
theorem len29 {vs : List Value} (h : vs.length = 29) : ∃ v0 v1 v2 v3 v4 v5 v6 v7 v8 v9 v10 v11 v12 v13 v14 v15 v16 v17 v18 v19 v20 v21 v22 v23 v24 v25 v26 v27 v28, vs = [v0, v1, v2, v3, v4, v5, v6, v7, v8, v9, v10, v11, v12, v13, v14, v15, v16, v17, v18, v19, v20, v21, v22, v23, v24, v25, v26, v27, v28] := by
  match vs, h with
  | v :: r, h =>
    obtain ⟨v0, v1, v2, v3, v4, v5, v6, v7, v8, v9, v10, v11, v12, v13, v14, v15, v16, v17, v18, v19, v20, v21, v22, v23, v24, v25, v26, v27, rfl⟩ := len28 (vs := r) (by simpa using h)
    exact ⟨v, v0, v1, v2, v3, v4, v5, v6, v7, v8, v9, v10, v11, v12, v13, v14, v15, v16, v17, v18, v19, v20, v21, v22, v23, v24, v25, v26, v27, rfl⟩
theorem len30 {vs : List Value} (h : vs.length = 30) : ∃ v0 v1 v2 v3 v4 v5 v6 v7 v8 v9 v10 v11 v12 v13 v14 v15 v16 v17 v18 v19 v20 v21 v22 v23 v24 v25 v26 v27 v28 v29, vs = [v0, v1, v2, v3, v4, v5, v6, v7, v8, v9, v10, v11, v12, v13, v14, v15, v16, v17, v18, v19, v20, v21, v22, v23, v24, v25, v26, v27, v28, v29] := by
  match vs, h with
  | v :: r, h =>
    obtain ⟨v0, v1, v2, v3, v4, v5, v6, v7, v8, v9, v10, v11, v12, v13, v14, v15, v16, v17, v18, v19, v20, v21, v22, v23, v24, v25, v26, v27, v28, rfl⟩ := len29 (vs := r) (by simpa using h)
    exact ⟨v, v0, v1, v2, v3, v4, v5, v6, v7, v8, v9, v10, v11, v12, v13, v14, v15, v16, v17, v18, v19, v20, v21, v22, v23, v24, v25, v26, v27, v28, rfl⟩
theorem len31 {vs : List Value} (h : vs.length = 31) : ∃ v0 v1 v2 v3 v4 v5 v6 v7 v8 v9 v10 v11 v12 v13 v14 v15 v16 v17 v18 v19 v20 v21 v22 v23 v24 v25 v26 v27 v28 v29 v30, vs = [v0, v1, v2, v3, v4, v5, v6, v7, v8, v9, v10, v11, v12, v13, v14, v15, v16, v17, v18, v19, v20, v21, v22, v23, v24, v25, v26, v27, v28, v29, v30] := by
  match vs, h with
  | v :: r, h =>
    obtain ⟨v0, v1, v2, v3, v4, v5, v6, v7, v8, v9, v10, v11, v12, v13, v14, v15, v16, v17, v18, v19, v20, v21, v22, v23, v24, v25, v26, v27, v28, v29, rfl⟩ := len30 (vs := r) (by simpa using h)
    exact ⟨v, v0, v1, v2, v3, v4, v5, v6, v7, v8, v9, v10, v11, v12, v13, v14, v15, v16, v17, v18, v19, v20, v21, v22, v23, v24, v25, v26, v27, v28, v29, rfl⟩

end Go.Proofs.Ytfbokdbaondjdaa.Rs
