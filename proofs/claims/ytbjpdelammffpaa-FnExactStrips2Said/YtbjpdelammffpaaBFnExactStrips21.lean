import Derived.Test.YtbjpdelammffpaaProg
import Derived.Test.YtbjpdelammffpaaBFnExactStrips20
import Derived.WalkKit
import Derived.IntWalk
import Derived.Orders
import Derived.KernelRfl
import Derived.Deep.Draws
import Derived.Lib.SlBy
import Derived.Lib.Walk
import Derived.Shelf.Abstract
import Derived.Deep.LoopGhost
import Derived.Deep.QuietTactic
import Derived.BigQuiet
import Derived.Below
import Derived.Deep.AppendLies
import Derived.Maps.AppendAt
import Derived.OwnWalk
import Derived.Laws.BytesArg
import Derived.Laws.MakeOwn
import Derived.Laws.OwnMore
import Derived.Deep.OwnRows
import Derived.Tactics
import Derived.Lib.ConvBytes
import Derived.Laws.Slices
import Derived.RowKit3
import Derived.WideLaws
import Derived.Deep.DeepCutAuto
import Derived.Deep.CutBlock
import Derived.Deep.RegionHeld3
import Derived.Laws.Rows
import Derived.Lib.AppendStr
import Derived.ArgAppend
import Derived.Laws.IdiomCopy
import Derived.OrdersHeld
import Derived.Laws.BitsLemmas
import Derived.RowKit
/- Rows that lie in an interval of blocks, and marking a row of rows. -/
namespace Go.Proofs.Ytbjpdelammffpaa.Mk
open Go Go.RowKit Go.Proofs.YtbjpdelammffpaaW.PrintWords Go.Proofs.YtbjpdelammffpaaW.PrintLast Go.Proofs.YtbjpdelammffpaaW.PrintMore
set_option linter.unusedVariables false
set_option linter.unusedSimpArgs false
/-- A row of one's own (of rows, which lie apart) all of whose blocks lie between lo and hi. -/
structure RowS {α : Type} (d : Kd α) (e : Nat) (w : World) (lo hi : Nat) (v : Value) (xs : List α) : Prop where out : Kd.S d e w lo (fun k => lo ≤ k ∧ k < hi) v xs
structure RowR {α : Type} (d : Kd α) (e : Nat) (w : World) (lo hi : Nat) (v : Value) (xs : List α) : Prop where out : Kd.R d e w lo (fun k => lo ≤ k ∧ k < hi) v xs
section
variable {α : Type} {d : Kd α} {e : Nat} {w w1 W : World} {lo hi : Nat} {v : Value} {xs : List α}
theorem RowS.new {base : Nat} {ok : Nat → Prop} (h : Kd.S d e w1 base ok v xs) : RowS d e w1 base w1.heap.size v xs := ⟨Kd.S_mono (Kd.S_bound h) (fun k hk => ⟨hk.2.1, hk.2.2.1⟩)⟩
theorem RowS.below (h : RowS d e w lo hi v xs) (hb : Below w.heap.size w w1) : RowS d e w1 lo hi v xs := ⟨Kd.S_below h.out hb⟩
theorem RowS.kept {S : Nat → Prop} (h : RowS d e w lo hi v xs) (hk : Kept w w1 S) (hne : ∀ k, lo ≤ k → k < hi → ¬ S k) : RowS d e w1 lo hi v xs := ⟨Kd.S_kept h.out hk (fun k h2 => hne k h2.1 h2.2)⟩
theorem RowS.slice (h : RowS d e w lo hi v xs) : ∃ A c, v = .slice A xs.length c := Kd.S_slice h.out
theorem RowS.reads {A : Option Addr} {n c : Nat} (h : RowS d e w lo hi (.slice A n c) xs) : n = xs.length ∧ n ≤ c ∧ d.C w A xs.length xs := Kd.S_reads' h.out
theorem RowR.new {base : Nat} {ok : Nat → Prop} (h : Kd.R d e w1 base ok v xs) : RowR d e w1 base w1.heap.size v xs := ⟨Kd.R_mono (Kd.R_bound h) (fun k hk => ⟨hk.2.1, hk.2.2.1⟩)⟩
theorem RowR.below (h : RowR d e w lo hi v xs) (hb : Below w.heap.size w w1) : RowR d e w1 lo hi v xs := ⟨Kd.R_below h.out hb⟩
theorem RowR.kept {S : Nat → Prop} (h : RowR d e w lo hi v xs) (hk : Kept w w1 S) (hne : ∀ k, lo ≤ k → k < hi → ¬ S k) : RowR d e w1 lo hi v xs := ⟨Kd.R_kept h.out hk (fun k h2 => hne k h2.1 h2.2)⟩
theorem RowR.slice (h : RowR d e w lo hi v xs) : ∃ A c, v = .slice A xs.length c := Kd.R_slice h.out
theorem RowR.reads {A : Option Addr} {n c : Nat} (h : RowR d e w lo hi (.slice A n c) xs) : n = xs.length ∧ n ≤ c ∧ d.C w A xs.length xs := Kd.R_reads' h.out
end
/-! ### Marking a row of rows -/
def mSS {α : Type} (mk : α → Int → Option (Int × α)) : List α → Int → Option (Int × List α)
  | [], a => some (a, [])
  | x :: xs, a => (mk x a).bind fun p => (mSS mk xs p.1).bind fun q => some (q.1, p.2 :: q.2)
theorem getD_mid {α : Type} (a b : List α) (y z : α) : (a ++ y :: b).getD a.length z = y := by simp
theorem set_mid {α : Type} (a b : List α) (y z : α) : (a ++ y :: b).set a.length z = (a ++ [z]) ++ b := by simp
set_option maxHeartbeats 8000000 in
theorem markSS_any (mk : List Int → Int → Option (Int × List Int))
    (hmk : ∀ (P : Nat → Prop) (u : Value) (x : List Int) (a r : Int) (x' : List Int) (w0 W : World), Below w0.heap.size w0 W → Kd.R (Kd.int .i64) 3 W w0.heap.size P u x → mk x a = some (r, x') →
      Calls Try.prog 12 #[u, .int .i64 a] W fun e W' => e = .returned (.int .i64 r) ∧ Kd.R (Kd.int .i64) 3 W' w0.heap.size (fun k => P k ∨ W.heap.size ≤ k) u x' ∧ Below w0.heap.size w0 W' ∧ Kept W W' P)
    (ok : Nat → Prop) (A : Option Addr) (c : Nat) (l l' : List (List Int)) (a r : Int) (w W : World) (hB : Below w.heap.size w W)
    (ho : Kd.S (Kd.slice 3 (Kd.int .i64)) 26 W w.heap.size ok (.slice A l.length c) l) (h : mSS mk l a = some (r, l')) :
    Calls Try.prog 25 #[.slice A l.length c, .int .i64 a] W fun e W' => e = .returned (.int .i64 r) ∧ Kd.S (Kd.slice 3 (Kd.int .i64)) 26 W' w.heap.size ok (.slice A l.length c) l' ∧ Below w.heap.size w W' ∧ Kept W W' ok := by
  have HM := Aside0.mk hmk
  have HB := Aside0.mk hB
  have HO := Aside0.mk ho
  have HH := Aside0.mk h
  clear hmk hB ho h
  have hlen := Aside0.mk (Kd.S_reads' HO.out).2.2.2.1
  go_enter Try.func25, Try.ntmps25
  go_wp2
  go_loopw [1, 5] (fun s1 s5 wr => ∃ (i : Nat) (x : Int) (dn rest rest' : List (List Int)), s1 = .int .i64 x ∧ s5 = .int .i64 (i : Int) ∧ Aside0 (dn.length = i ∧ dn.length + rest.length = l.length ∧ mSS mk rest x = some (r, rest') ∧ l' = dn ++ rest') ∧ Aside0 (Kd.S (Kd.slice 3 (Kd.int .i64)) 26 wr w.heap.size ok (.slice A l.length c) (dn ++ rest)) ∧ Aside0 (Kept W wr ok) ∧ Aside0 (Below w.heap.size w wr)) (fun _ i _ => l.length - (RowKit.intOf i).toNat)
  case atStart => exact ⟨0, a, [], l, l', rfl, rfl, ⟨rfl, by simp, HH.out, rfl⟩, ⟨HO.out⟩, ⟨Kept.refl W ok⟩, HB⟩
  case round =>
    obtain ⟨i, x, dn, rest, rest', rfl, rfl, HI, HS, HK, HBr⟩ := hrel
    cases rest with
    | nil =>
      have hd : decide (i < l.length) = false := decide_eq_false (by have := HI.out.2.1; have := HI.out.1; simp at *; omega)
      go_wp2
      go_ret
      obtain ⟨h1, h2, h3, h4⟩ := HI.out
      simp only [mSS, Option.some.injEq, Prod.mk.injEq] at h3
      obtain ⟨rfl, rfl⟩ := h3
      rw [h4]
      exact ⟨rfl, HS.out, HBr.out, HK.out⟩
    | cons y ys =>
      have hi : i < l.length := by have := HI.out.2.1; have := HI.out.1; simp at *; omega
      obtain ⟨h1, h2, h3, h4⟩ := HI.out
      subst h1
      simp only [mSS] at h3
      obtain ⟨p, e0, h3⟩ := Option.bind_eq_some_iff.mp h3
      obtain ⟨q, e1, h3⟩ := Option.bind_eq_some_iff.mp h3
      simp only [Option.some.injEq, Prod.mk.injEq] at h3
      obtain ⟨h5, h6⟩ := h3
      obtain ⟨g, cp, hv, hg0, hg1, _⟩ := Kd.S_form HS.out (by simp; omega)
      injection hv with hA hn hc
      subst hA hc
      obtain ⟨oki, cl, hcl, hM, hcell, hoki, hH⟩ := Kd.S_lend HS.out ([] : List Int) (dn.length : Int) (by omega) (by omega)
      obtain ⟨v, rfl, hR⟩ := hM
      rw [Int.toNat_natCast, getD_mid] at hR
      obtain ⟨Ai, ci, rfl⟩ := Kd.R_slice hR
      have hc0 : wr.cell? ⟨g, dn.length, none⟩ = some (.slice Ai y.length ci) := by
        have := hcell 0 _ rfl
        simpa [Kd.slice] using this
      have HR := Aside0.mk hR
      have HE0 := Aside0.mk e0
      have HE1 := Aside0.mk e1
      have HX := Aside0.mk (And.intro h2 (And.intro h4 (And.intro h5 h6)))
      have HHo := Aside0.mk hH
      have HOK := Aside0.mk hoki
      clear hR e0 e1 h2 h4 h5 h6 hH hcell hcl hoki hn hg0 hg1
      have HD := Aside0.mk hi
      have hd : decide (dn.length < l.length) = true := decide_eq_true hi
      have q1 : (dn.length : Int) < (l.length : Int) := by omega
      have q2 : (0 : Int) ≤ (dn.length : Int) := by omega
      have e6 : IntKind.i64.wrap ((dn.length : Int) + 1) = (dn.length : Int) + 1 := IntWalk.i64_in _ (by have := hlen.out; omega)
      clear hi
      go_wp2_with fail
      refine (HM.out oki _ y x p.1 p.2 w wr HBr.out HR.out HE0.out).mono ?_
      rintro e w2 ⟨rfl, hR2, hB2, hK2⟩
      have HR2 := Aside0.mk hR2
      have HB2 := Aside0.mk hB2
      have HK2 := Aside0.mk hK2
      clear hR2 hB2 hK2
      have hS2 : Kd.S (Kd.slice 3 (Kd.int .i64)) 26 w2 w.heap.size ok (.slice (some ⟨g, 0, none⟩) l.length c) ((dn ++ [p.2]) ++ ys) := by
        have h7 := Kd.H_kept HHo.out HK2.out (fun k _ hn hs => hn hs)
        have h8 : Kd.R (Kd.int .i64) 3 w2 w.heap.size oki (.slice Ai y.length ci) p.2 := Kd.R_mono (Kd.R_tight rfl HR2.out) (fun k hk => HR.out.1 k hk.symm)
        have h9 := Kd.H_back h7 (x' := p.2) (okp := oki) ⟨_, rfl, h8⟩ (fun _ hk => hk)
        rw [Int.toNat_natCast, set_mid] at h9
        exact h9
      have HS2 := Aside0.mk hS2
      clear hS2
      go_wp2
      go_roundw
      case rel =>
        obtain ⟨h2, h4, h5, h6⟩ := HX.out
        exact ⟨dn.length + 1, p.1, dn ++ [p.2], ys, q.2, rfl, by go_num, ⟨by simp, by simp at *; omega, by rw [HE1.out, ← h5], by rw [h4, ← h6]; simp⟩, HS2, ⟨HK.out.then_ HK2.out (fun k hk => .inl (HOK.out k hk).1)⟩, HB2⟩
      case measure => simp [RowKit.intOf]; have := HD.out; omega
end Go.Proofs.Ytbjpdelammffpaa.Mk
/- Marking a hull. -/
namespace Go.Proofs.Ytbjpdelammffpaa.Mk
open Go Go.RowKit Go.Proofs.YtbjpdelammffpaaW.PrintWords Go.Proofs.YtbjpdelammffpaaW.PrintLast Go.Proofs.YtbjpdelammffpaaW.PrintMore
set_option linter.unusedVariables false
set_option maxHeartbeats 8000000 in
theorem markHull_any (mk : List Int → Int → Option (Int × List Int))
    (hmk : ∀ (P : Nat → Prop) (u : Value) (x : List Int) (a r : Int) (x' : List Int) (w0 W : World), Below w0.heap.size w0 W → Kd.R (Kd.int .i64) 3 W w0.heap.size P u x → mk x a = some (r, x') →
      Calls Try.prog 12 #[u, .int .i64 a] W fun e W' => e = .returned (.int .i64 r) ∧ Kd.R (Kd.int .i64) 3 W' w0.heap.size (fun k => P k ∨ W.heap.size ≤ k) u x' ∧ Below w0.heap.size w0 W' ∧ Kept W W' P)
    (ok : Nat → Prop) (s t : Int) (A : Option Addr) (c : Nat) (l l' : List (List Int)) (a r : Int) (w W : World) (hB : Below w.heap.size w W)
    (ho : Kd.S (Kd.slice 3 (Kd.int .i64)) 26 W w.heap.size ok (.slice A l.length c) l) (h : mSS mk l a = some (r, l')) :
    Calls Try.prog 11 #[.agg #[.int .i64 s, .int .i64 t, .slice A l.length c], .int .i64 a] W fun e W' => e = .returned (.int .i64 r) ∧ Below w.heap.size w W' ∧ Kept W W' ok := by
  have hb0 : Below W.heap.size W (W.alloc (.cells #[.int .i64 s, .int .i64 t, .slice A l.length c] 28)) := (Below.refl _ _).alloc (Nat.le_refl _) _
  have ct := markSS_any mk hmk ok A c l l' a r w _ (hB.trans (hb0.mono hB.size)) (Kd.S_below ho hb0) h
  have HK := Aside0.mk (Kept.of_below hb0 ok)
  clear hb0 hB ho h hmk
  have CT := Aside0.mk ct
  clear ct
  go_enter Try.func11, Try.ntmps11
  go_wp2_with fail
  refine (CT.out).mono ?_
  rintro e w2 ⟨rfl, _, hB2, hK2⟩
  have HB2 := Aside0.mk hB2
  have HK2 := Aside0.mk (HK.out.then_ hK2 (fun k hk => .inl hk))
  clear hB2 hK2
  go_wp2
  go_ret
  exact ⟨rfl, HB2.out, HK2.out⟩
end Go.Proofs.Ytbjpdelammffpaa.Mk
/- A region that draws its order, of whose operations all but the last only read, reckon, call or make memory: what each yields is told once, whatever the order. -/
namespace Go.Proofs.Ytbjpdelammffpaa.Rg
open Go Go.RowKit

section
variable {P : Program} {ops : Array Oper} {Q : Exit → Act → World → Prop} {md : Region.Mode}

/-- How many have not come up. -/
def left (listed : Array Bool) : Nat := listed.toList.countP (fun b => !b)
theorem left_set {listed : Array Bool} {i : Nat} (h : listed.getD i true = false) : left listed = left (listed.setIfInBounds i true) + 1 := by
  have hi : i < listed.size := by
    rcases Nat.lt_or_ge i listed.size with h' | h'
    · exact h'
    · simp [Array.getD, Nat.not_lt.2 h'] at h
  have hv : listed[i] = false := by simpa [Array.getD, hi] using h
  unfold left
  rw [Array.toList_setIfInBounds]
  have hl : i < listed.toList.length := by simpa using hi
  have hv' : listed.toList[i] = false := by simpa using hv
  have key : ∀ (l : List Bool) (i : Nat) (hl : i < l.length), l[i] = false → l.countP (fun b => !b) = (l.set i true).countP (fun b => !b) + 1 := by
    intro l
    induction l with
    | nil => intro i hl; simp at hl
    | cons b l ih =>
      intro i hl hv
      cases i with
      | zero =>
        obtain rfl : b = false := by simpa using hv
        simp
      | succ i =>
        have := ih i (by simpa using hl) (by simpa using hv)
        cases b <;> simp [this]
  exact key _ i hl hv'
theorem left_zero {listed : Array Bool} (h : left listed = 0) : Region.ready md ops listed = [] := by
  have hall : ∀ i, listed.getD i true = true := by
    intro i
    cases hb : listed.getD i true with
    | true => rfl
    | false => have := left_set hb; omega
  unfold Region.ready
  rw [List.filter_eq_nil_iff]
  intro i _
  simp [hall]

theorem wpAny_inv {I : Array Bool → Act → World → Prop}
    (step : ∀ listed a w, I listed a w → ∀ i ∈ Region.ready md ops listed, wpOp P ops Q i (I (listed.setIfInBounds i true)) a w)
    (done : ∀ listed a w, I listed a w → Region.ready md ops listed = [] → Q .normal a w) :
    ∀ (fuel : Nat) (listed : Array Bool) (a : Act) (w : World), listed.size = ops.size → left listed ≤ fuel → I listed a w → wpAny P md ops Q fuel listed a w := by
  intro fuel
  induction fuel with
  | zero =>
    intro listed a w hs hl hI
    have hr := left_zero (md := md) (ops := ops) (Nat.le_zero.1 hl)
    exact ⟨hr, done _ _ _ hI hr⟩
  | succ fuel ih =>
    intro listed a w hs hl hI
    refine ⟨fun hr => done _ _ _ hI hr, fun i hi => ?_⟩
    have h1 := (mem_ready.1 hi).1
    have h2 := left_set h1
    exact wpOp_mono (fun a' w' h' => ih _ a' w' (by simpa using hs) (by omega) h') (step _ _ _ hI i hi)

/-- The frame with these slots filled. -/
def fill (a : Act) (ds : List Tmp) (vs : List Value) : Act := { a with tmps := (ds.zip vs).foldl (fun t x => t.setIfInBounds x.1 x.2) a.tmps }
theorem fill_set {a : Act} : ∀ {ds : List Tmp} {vs : List Value} {i : Nat} {d : Tmp} {v : Value}, ds.Nodup → vs.length = ds.length → ds[i]? = some d → (fill a ds vs).put (some d) v = fill a ds (vs.set i v) := by
  have comm : ∀ (l : List (Tmp × Value)) (t : Array Value) (d : Tmp) (v : Value), (∀ x ∈ l, x.1 ≠ d) → (l.foldl (fun t x => t.setIfInBounds x.1 x.2) t).setIfInBounds d v = l.foldl (fun t x => t.setIfInBounds x.1 x.2) (t.setIfInBounds d v) := by
    intro l
    induction l with
    | nil => intro t d v _; rfl
    | cons x l ih =>
      intro t d v h
      simp only [List.foldl_cons]
      rw [ih _ _ _ (fun y hy => h y (List.mem_cons_of_mem _ hy)), Array.setIfInBounds_comm _ _ (h x List.mem_cons_self)]
  intro ds vs i d v hnd hl hd
  unfold fill Act.put
  simp only
  congr 1
  revert vs i a
  induction ds with
  | nil => intro a vs i hl hd; simp at hd
  | cons d0 ds ih =>
    intro a vs i hl hd
    cases vs with
    | nil => simp at hl
    | cons v0 vs =>
      obtain ⟨hn0, hn⟩ := List.nodup_cons.1 hnd
      cases i with
      | zero =>
        obtain rfl : d0 = d := by simpa using hd
        simp only [List.zip_cons_cons, List.foldl_cons, List.set_cons_zero]
        rw [comm]
        · simp [Array.setIfInBounds_setIfInBounds]
        · intro x hx he
          exact hn0 (he ▸ (List.of_mem_zip hx).1)
      | succ i =>
        simp only [List.zip_cons_cons, List.foldl_cons, List.set_cons_succ]
        exact ih (a := { a with tmps := a.tmps.setIfInBounds d0 v0 }) hn (by simpa using hl) (by simpa using hd)

/-- The operations' destinations are these, each another; the last one is not guarded and waits for all. -/
def plainB (md : Region.Mode) (ops : Array Oper) (ds : List Tmp) : Bool :=
  (ops.size == ds.length + 1) && (List.range ds.length).all (fun i => match ops[i]? with | some o => (o.dst == ds[i]?) && o.after.all (fun e => decide (e.on < i)) | none => false) &&
  decide ds.Nodup && (match ops[ds.length]? with | some o => o.guard.isNone && o.after.all (fun e => decide (e.on < ds.length)) && (List.range ds.length).all (fun j => o.after.any fun e => Region.binds md e && e.on == j) | none => false)

/-- What the first operations yield: number i the value v, which in the world w is as V i says; a later world that keeps what there was keeps V. -/
theorem region_any {id : Nat} {a0 : Act} {w0 : World} (hm : P.follows .mixedOrders = true) (ds : List Tmp) (hds : plainB .any ops ds = true) (vs0 : List Value) (hvs0 : vs0.length = ds.length) (ha0 : fill a0 ds vs0 = a0)
    (V : Nat → Value → World → Prop) (hV : ∀ i v w w', V i v w → Below w.heap.size w w' → V i v w')
    (hstep : ∀ i, i < ds.length → ∀ oi, ops[i]? = some oi → ∀ vs, vs.length = ds.length → ∀ w, Below w0.drew.heap.size w0.drew w → (∀ e ∈ oi.after, Region.binds .any e = true → V e.on (vs.getD e.on undef) w) →
      ∀ K : Act → World → Prop, (∀ v w', Below w.heap.size w w' → V i v w' → K ((fill a0 ds vs).put oi.dst v) w') →
        if Region.wanted oi (yielded ops (fill a0 ds vs).tmps) = true then oi.wp P (fill a0 ds vs) w K Q else K ((fill a0 ds vs).put oi.dst undef) w)
    (hlast : ∀ o, ops[ds.length]? = some o → ∀ vs, vs.length = ds.length → ∀ w, Below w0.drew.heap.size w0.drew w → (∀ j, j < ds.length → V j (vs.getD j undef) w) → ∀ K : Act → World → Prop, (∀ a' w', Q .normal a' w' → K a' w') → o.wp P (fill a0 ds vs) w K Q) :
    (Code.region id ops true).wp P Q a0 w0 := by
  unfold plainB at hds
  simp only [Bool.and_eq_true, beq_iff_eq, decide_eq_true_eq] at hds
  obtain ⟨⟨⟨hsz, hall⟩, hnd⟩, hlst⟩ := hds
  refine wp_region_any hm ?_
  have hset : ∀ (listed : Array Bool) (i : Nat), i < listed.size → (listed.setIfInBounds i true).getD i true = true := fun listed i h => by simp [Array.getD, h]
  have hTF : ∀ (listed : Array Bool) (j : Nat), listed.getD j false = true → listed.getD j true = true := fun listed j h => by
    rcases Nat.lt_or_ge j listed.size with h' | h'
    · simpa [Array.getD, h'] using h
    · simp [Array.getD, Nat.not_lt.2 h'] at h
  refine wpAny_inv (I := fun listed a w => listed.size = ops.size ∧ if listed.getD ds.length true = true then Q .normal a w ∧ ∀ j, listed.getD j true = true else
      ∃ vs, vs.length = ds.length ∧ a = fill a0 ds vs ∧ Below w0.drew.heap.size w0.drew w ∧ ∀ j, j < ds.length → listed.getD j true = true → V j (vs.getD j undef) w) ?_ ?_ _ _ _ _ (by simp) ?_ ?_
  · intro listed a w hI i hi
    obtain ⟨hsl, hI⟩ := hI
    obtain ⟨hun, oi, hoi, haft⟩ := mem_ready.1 hi
    have hio : i < ops.size := (Array.getElem?_eq_some_iff.1 hoi).1
    have hilt : i < listed.size := by omega
    unfold wpOp
    rw [hoi]
    simp only
    by_cases hil : i = ds.length
    · subst hil
      rw [hoi] at hlst
      simp only [Bool.and_eq_true, Option.isNone_iff_eq_none] at hlst
      rw [if_pos (by simp [Region.wanted, hlst.1.1])]
      rw [if_neg (fun h => by rw [hun] at h; cases h)] at hI
      obtain ⟨vs, hl, rfl, hb, hv⟩ := hI
      have hdone : ∀ j, j < ds.length → listed.getD j true = true := fun j hj => by
        have h1 := List.all_eq_true.1 hlst.2 j (List.mem_range.2 hj)
        obtain ⟨e, he, h2⟩ := Array.any_eq_true'.1 h1
        simp only [Bool.and_eq_true, beq_iff_eq] at h2
        have h3 := haft e he h2.1
        rw [h2.2] at h3
        exact hTF _ _ h3
      refine .inl (Oper.wp_mono (fun a' w' h' => ?_) (hlast oi hoi vs hl w hb (fun j hj => hv j hj (hdone j hj)) (fun a' w' => Q .normal a' w') (fun _ _ h => h)))
      refine ⟨by simpa using hsl, ?_⟩
      rw [if_pos (hset _ _ hilt)]
      refine ⟨h', fun j => ?_⟩
      by_cases hj : j < ds.length
      · rw [getD_set_ne true (by omega)]; exact hdone j hj
      · by_cases hj2 : j = ds.length
        · subst hj2; exact hset _ _ hilt
        · have : ¬ j < (listed.setIfInBounds ds.length true).size := by simp; omega
          simp only [Array.getD, this, dif_neg, not_false_eq_true]
    · have hid : i < ds.length := by omega
      have h1 := List.all_eq_true.1 hall i (List.mem_range.2 hid)
      rw [hoi] at h1
      simp only [Bool.and_eq_true, beq_iff_eq] at h1
      obtain ⟨hdst, hon⟩ := h1
      have hn : ¬ listed.getD ds.length true = true := fun hy => by
        rw [if_pos hy] at hI
        rw [hI.2 i] at hun
        cases hun
      rw [if_neg hn] at hI
      obtain ⟨vs, hl, rfl, hb, hv⟩ := hI
      have hgo : ∀ a' w', (∃ v, a' = (fill a0 ds vs).put oi.dst v ∧ Below w.heap.size w w' ∧ V i v w') →
          (listed.setIfInBounds i true).size = ops.size ∧ if (listed.setIfInBounds i true).getD ds.length true = true then Q .normal a' w' ∧ ∀ j, (listed.setIfInBounds i true).getD j true = true else
            ∃ vs, vs.length = ds.length ∧ a' = fill a0 ds vs ∧ Below w0.drew.heap.size w0.drew w' ∧ ∀ j, j < ds.length → (listed.setIfInBounds i true).getD j true = true → V j (vs.getD j undef) w' := by
        rintro a' w' ⟨v, rfl, hbw, hvi⟩
        refine ⟨by simpa using hsl, ?_⟩
        rw [getD_set_ne true hil, if_neg hn]
        have hdi : ds[i]? = some ds[i] := List.getElem?_eq_getElem hid
        rw [hdst, hdi, fill_set hnd hl hdi]
        refine ⟨_, by simpa using hl, rfl, hb.trans (hbw.mono hb.size), fun j hj hjl => ?_⟩
        by_cases hji : i = j
        · subst hji
          rw [List.getD_eq_getElem?_getD, List.getElem?_set_self (by omega)]
          exact hvi
        · rw [getD_set_ne true hji] at hjl
          have := hV j _ _ _ (hv j hj hjl) hbw
          rw [List.getD_eq_getElem?_getD, List.getElem?_set_ne hji, ← List.getD_eq_getElem?_getD]
          exact this
      have hs := hstep i hid oi hoi vs hl w hb (fun e he hbd => by
        have hlt : e.on < ds.length := by
          have := Array.all_eq_true_iff_forall_mem.1 hon e he
          have : e.on < i := by simpa using this
          omega
        exact hv e.on hlt (hTF _ _ (haft e he hbd))) (fun a' w' => ∃ v, a' = (fill a0 ds vs).put oi.dst v ∧ Below w.heap.size w w' ∧ V i v w') (fun v w' hb hv => ⟨v, rfl, hb, hv⟩)
      by_cases hwt : Region.wanted oi (yielded ops (fill a0 ds vs).tmps) = true
      · rw [if_pos hwt] at hs ⊢
        exact .inl (Oper.wp_mono hgo hs)
      · rw [if_neg hwt] at hs ⊢
        exact hgo _ _ hs
  · intro listed a w hI hr
    obtain ⟨hsl, hI⟩ := hI
    have hall' : listed.getD ds.length true = true := by
      -- the first that has not come up could come up
      refine Classical.byContradiction fun hn => ?_
      have hn' : listed.getD ds.length true = false := by simpa using hn
      have hleast : ∀ m, m ≤ ds.length → listed.getD m true = false → ∃ i, listed.getD i true = false ∧ ∀ j, j < i → listed.getD j true = true := by
        intro m
        induction m using Nat.strongRecOn with
        | _ m ih =>
          intro hm hmf
          by_cases hex : ∃ j, j < m ∧ listed.getD j true = false
          · obtain ⟨j, hj, hjf⟩ := hex
            exact ih j hj (by omega) hjf
          · refine ⟨m, hmf, fun j hj => ?_⟩
            cases hb : listed.getD j true with
            | true => rfl
            | false => exact absurd ⟨j, hj, hb⟩ hex
      obtain ⟨i, hif, hil⟩ := hleast _ (Nat.le_refl _) hn'
      have hi : i < listed.size := by
        rcases Nat.lt_or_ge i listed.size with h' | h'
        · exact h'
        · simp [Array.getD, Nat.not_lt.2 h'] at hif
      have hTF' : ∀ j, j < i → listed.getD j false = true := fun j hj => by
        have := hil j hj
        have hj' : j < listed.size := by omega
        simpa [Array.getD, hj'] using this
      have hio : i < ops.size := by omega
      have hmem : i ∈ Region.ready .any ops listed := by
        refine mem_ready.2 ⟨hif, ops[i], Array.getElem?_eq_getElem hio, fun e he _ => hTF' e.on ?_⟩
        by_cases hid : i < ds.length
        · have h1 := List.all_eq_true.1 hall i (List.mem_range.2 hid)
          rw [Array.getElem?_eq_getElem hio] at h1
          simp only [Bool.and_eq_true] at h1
          have := Array.all_eq_true_iff_forall_mem.1 h1.2 e he
          simpa using this
        · obtain rfl : i = ds.length := by omega
          rw [Array.getElem?_eq_getElem hio] at hlst
          simp only [Bool.and_eq_true] at hlst
          have := Array.all_eq_true_iff_forall_mem.1 hlst.1.2 e he
          simpa using this
      rw [hr] at hmem
      cases hmem
    rw [if_pos hall'] at hI
    exact hI.1
  · unfold left
    exact Nat.le_trans List.countP_le_length (by simp)
  · refine ⟨by simp, ?_⟩
    have hf : ∀ j, j < ops.size → (Array.replicate ops.size false).getD j true = false := fun j hj => by simp [Array.getD, hj]
    rw [if_neg (by rw [hf _ (by omega)]; simp)]
    refine ⟨vs0, hvs0, ha0.symm, Below.refl _ _, fun j hj hjl => ?_⟩
    rw [hf j (by omega)] at hjl
    cases hjl
end

/-! ### The same, told along the list of the operations -/
section
variable {P : Program} {ops : Array Oper} {Q : Exit → Act → World → Prop}
def predAt (Vs : List (Value → World → Prop)) (j : Nat) : Value → World → Prop := Vs.getD j (fun _ _ => True)
/-- The facts of these numbers. -/
def Known (Vs : List (Value → World → Prop)) (vs : List Value) (w : World) : List Nat → Prop
  | [] => True
  | j :: js => predAt Vs j (vs.getD j undef) w ∧ Known Vs vs w js
theorem known_of {Vs : List (Value → World → Prop)} {vs : List Value} {w : World} {l : List Nat} (h : ∀ j ∈ l, predAt Vs j (vs.getD j undef) w) : Known Vs vs w l := by
  induction l with
  | nil => trivial
  | cons j js ih => exact ⟨h j List.mem_cons_self, ih (fun k hk => h k (List.mem_cons_of_mem _ hk))⟩
/-- The numbers that an operation waits for. -/
def deps (o : Oper) : List Nat := (o.after.toList.filter fun e => Region.binds .any e).map (·.on)
/-- A goal that no tactic looks into. -/
structure Still (p : Prop) : Prop where mk :: (out : p)
def StepOk (P : Program) (ops : Array Oper) (Q : Exit → Act → World → Prop) (a0 : Act) (W : World) (ds : List Tmp) (Vs : List (Value → World → Prop)) (i : Nat) (o : Oper) : Prop :=
  ∀ vs : List Value, vs.length = ds.length → ∀ w, Below W.heap.size W w → Known Vs vs w (deps o) →
    ∀ K : Act → World → Prop, (∀ v w', Below w.heap.size w w' → predAt Vs i v w' → K ((fill a0 ds vs).put o.dst v) w') → Still (if Region.wanted o (yielded ops (fill a0 ds vs).tmps) = true then o.wp P (fill a0 ds vs) w K Q else K ((fill a0 ds vs).put o.dst undef) w)
/-- The same of an operation that is not guarded. -/
def PlainOk (P : Program) (Q : Exit → Act → World → Prop) (a0 : Act) (W : World) (ds : List Tmp) (Vs : List (Value → World → Prop)) (i : Nat) (o : Oper) : Prop :=
  ∀ vs : List Value, vs.length = ds.length → ∀ w, Below W.heap.size W w → Known Vs vs w (deps o) →
    ∀ K : Act → World → Prop, (∀ v w', Below w.heap.size w w' → predAt Vs i v w' → K ((fill a0 ds vs).put o.dst v) w') → Still (o.wp P (fill a0 ds vs) w K Q)
def seqFrom : Nat → List Tmp → List Nat
  | _, [] => []
  | k, _ :: r => k :: seqFrom (k + 1) r
theorem mem_seqFrom : ∀ {ds : List Tmp} {k j : Nat}, j ∈ seqFrom k ds → k ≤ j ∧ j < k + ds.length := by
  intro ds
  induction ds with
  | nil => intro k j h; cases h
  | cons d r ih =>
    intro k j h
    rcases List.mem_cons.1 h with rfl | h
    · simp
    · have := ih h
      simp only [List.length_cons]
      omega
def LastOk (P : Program) (Q : Exit → Act → World → Prop) (a0 : Act) (W : World) (ds : List Tmp) (Vs : List (Value → World → Prop)) (o : Oper) : Prop :=
  ∀ vs : List Value, vs.length = ds.length → ∀ w, Below W.heap.size W w → Known Vs vs w (seqFrom 0 ds) →
    ∀ K : Act → World → Prop, (∀ a' w', Q .normal a' w' → K a' w') → Still (o.wp P (fill a0 ds vs) w K Q)
def StepsOk (P : Program) (ops : Array Oper) (Q : Exit → Act → World → Prop) (a0 : Act) (W : World) (ds : List Tmp) (Vs : List (Value → World → Prop)) : Nat → List Oper → Prop
  | _, [] => True
  | _, [o] => LastOk P Q a0 W ds Vs o
  | i, o :: o' :: r => StepOk P ops Q a0 W ds Vs i o ∧ StepsOk P ops Q a0 W ds Vs (i + 1) (o' :: r)
def StableAll : List (Value → World → Prop) → Prop
  | [] => True
  | V :: r => (∀ v w w', V v w → Below w.heap.size w w' → V v w') ∧ StableAll r
theorem stable_at {Vs : List (Value → World → Prop)} (h : StableAll Vs) : ∀ i v w w', predAt Vs i v w → Below w.heap.size w w' → predAt Vs i v w' := by
  induction Vs with
  | nil => intro i v w w' _ _; simp [predAt]
  | cons V r ih =>
    intro i v w w' hv hb
    cases i with
    | zero => exact h.1 v w w' hv hb
    | succ i => exact ih h.2 i v w w' hv hb
theorem steps_at {a0 : Act} {W : World} {ds : List Tmp} {Vs : List (Value → World → Prop)} : ∀ {l : List Oper} {k : Nat}, StepsOk P ops Q a0 W ds Vs k l →
    (∀ i o, l[i]? = some o → i + 1 < l.length → StepOk P ops Q a0 W ds Vs (k + i) o) ∧ (∀ o, l[l.length - 1]? = some o → LastOk P Q a0 W ds Vs o) := by
  intro l
  induction l with
  | nil => intro k _; exact ⟨fun i o h => by simp at h, fun o h => by simp at h⟩
  | cons o0 r ih =>
    intro k h
    cases r with
    | nil =>
      refine ⟨fun i o _ hl => by simp at hl, fun o ho => ?_⟩
      obtain rfl : o0 = o := by simpa using ho
      exact h
    | cons o1 r =>
      obtain ⟨h1, h2⟩ := ih h.2
      refine ⟨fun i o ho hl => ?_, fun o ho => h2 o (by simpa using ho)⟩
      cases i with
      | zero =>
        obtain rfl : o0 = o := by simpa using ho
        exact h.1
      | succ i =>
        have := h1 i o (by simpa using ho) (by simpa using hl)
        rwa [show k + 1 + i = k + (i + 1) by omega] at this

theorem steps_one {a0 : Act} {W : World} {ds : List Tmp} {Vs : List (Value → World → Prop)} {k : Nat} {o : Oper} (h : LastOk P Q a0 W ds Vs o) : StepsOk P ops Q a0 W ds Vs k [o] := h
theorem steps_cons {a0 : Act} {W : World} {ds : List Tmp} {Vs : List (Value → World → Prop)} {k : Nat} {o o' : Oper} {r : List Oper} (h : StepOk P ops Q a0 W ds Vs k o) (hr : StepsOk P ops Q a0 W ds Vs (k + 1) (o' :: r)) : StepsOk P ops Q a0 W ds Vs k (o :: o' :: r) := ⟨h, hr⟩
theorem steps_plain {a0 : Act} {W : World} {ds : List Tmp} {Vs : List (Value → World → Prop)} {k : Nat} {o o' : Oper} {r : List Oper} (hg : o.guard = none) (h : PlainOk P Q a0 W ds Vs k o) (hr : StepsOk P ops Q a0 W ds Vs (k + 1) (o' :: r)) : StepsOk P ops Q a0 W ds Vs k (o :: o' :: r) :=
  ⟨fun vs hl w hb hd K hK => ⟨by rw [if_pos (by simp [Region.wanted, hg])]; exact (h vs hl w hb hd K hK).out⟩, hr⟩
theorem region_list {id : Nat} {l : List Oper} {a0 : Act} {w0 : World} (hm : P.follows .mixedOrders = true) (ds : List Tmp) (vs0 : List Value) (Vs : List (Value → World → Prop))
    (hds : plainB .any l.toArray ds = true) (hvs0 : vs0.length = ds.length) (ha0 : fill a0 ds vs0 = a0) (hV : StableAll Vs) (h : StepsOk P l.toArray Q a0 w0.drew ds Vs 0 l) : (Code.region id l.toArray true).wp P Q a0 w0 := by
  obtain ⟨h1, h2⟩ := steps_at h
  have hlen : l.length = ds.length + 1 := by
    unfold plainB at hds
    simp only [Bool.and_eq_true, beq_iff_eq] at hds
    simpa using hds.1.1.1
  refine region_any hm ds hds vs0 hvs0 ha0 (predAt Vs) (stable_at hV) ?_ ?_
  · intro i hi oi hoi vs hl w hb hd K hK
    have := h1 i oi (by simpa using hoi) (by omega)
    rw [Nat.zero_add] at this
    refine (this vs hl w hb (known_of fun j hj => ?_) K hK).out
    obtain ⟨e, he, rfl⟩ := List.mem_map.1 hj
    obtain ⟨he1, he2⟩ := List.mem_filter.1 he
    exact hd e (by simpa using he1) he2
  · intro o ho vs hl w hb hd K hK
    refine (h2 o ?_ vs hl w hb (known_of fun j hj => hd j (by have := (mem_seqFrom hj).2; omega)) K hK).out
    rw [hlen, Nat.add_sub_cancel]
    simpa using ho
end
theorem len1 {vs : List Value} (h : vs.length = 1) : ∃ v0, vs = [v0] := by
  match vs, h with
  | [v0], _ => exact ⟨v0, rfl⟩
theorem len2 {vs : List Value} (h : vs.length = 2) : ∃ v0 v1, vs = [v0, v1] := by
  match vs, h with
  | v :: r, h =>
    obtain ⟨v0, rfl⟩ := len1 (vs := r) (by simpa using h)
    exact ⟨v, v0, rfl⟩
theorem len3 {vs : List Value} (h : vs.length = 3) : ∃ v0 v1 v2, vs = [v0, v1, v2] := by
  match vs, h with
  | v :: r, h =>
    obtain ⟨v0, v1, rfl⟩ := len2 (vs := r) (by simpa using h)
    exact ⟨v, v0, v1, rfl⟩
theorem len4 {vs : List Value} (h : vs.length = 4) : ∃ v0 v1 v2 v3, vs = [v0, v1, v2, v3] := by
  match vs, h with
  | v :: r, h =>
    obtain ⟨v0, v1, v2, rfl⟩ := len3 (vs := r) (by simpa using h)
    exact ⟨v, v0, v1, v2, rfl⟩
theorem len5 {vs : List Value} (h : vs.length = 5) : ∃ v0 v1 v2 v3 v4, vs = [v0, v1, v2, v3, v4] := by
  match vs, h with
  | v :: r, h =>
    obtain ⟨v0, v1, v2, v3, rfl⟩ := len4 (vs := r) (by simpa using h)
    exact ⟨v, v0, v1, v2, v3, rfl⟩
theorem len6 {vs : List Value} (h : vs.length = 6) : ∃ v0 v1 v2 v3 v4 v5, vs = [v0, v1, v2, v3, v4, v5] := by
  match vs, h with
  | v :: r, h =>
    obtain ⟨v0, v1, v2, v3, v4, rfl⟩ := len5 (vs := r) (by simpa using h)
    exact ⟨v, v0, v1, v2, v3, v4, rfl⟩
theorem len7 {vs : List Value} (h : vs.length = 7) : ∃ v0 v1 v2 v3 v4 v5 v6, vs = [v0, v1, v2, v3, v4, v5, v6] := by
  match vs, h with
  | v :: r, h =>
    obtain ⟨v0, v1, v2, v3, v4, v5, rfl⟩ := len6 (vs := r) (by simpa using h)
    exact ⟨v, v0, v1, v2, v3, v4, v5, rfl⟩
theorem len8 {vs : List Value} (h : vs.length = 8) : ∃ v0 v1 v2 v3 v4 v5 v6 v7, vs = [v0, v1, v2, v3, v4, v5, v6, v7] := by
  match vs, h with
  | v :: r, h =>
    obtain ⟨v0, v1, v2, v3, v4, v5, v6, rfl⟩ := len7 (vs := r) (by simpa using h)
    exact ⟨v, v0, v1, v2, v3, v4, v5, v6, rfl⟩
theorem len9 {vs : List Value} (h : vs.length = 9) : ∃ v0 v1 v2 v3 v4 v5 v6 v7 v8, vs = [v0, v1, v2, v3, v4, v5, v6, v7, v8] := by
  match vs, h with
  | v :: r, h =>
    obtain ⟨v0, v1, v2, v3, v4, v5, v6, v7, rfl⟩ := len8 (vs := r) (by simpa using h)
    exact ⟨v, v0, v1, v2, v3, v4, v5, v6, v7, rfl⟩
theorem len10 {vs : List Value} (h : vs.length = 10) : ∃ v0 v1 v2 v3 v4 v5 v6 v7 v8 v9, vs = [v0, v1, v2, v3, v4, v5, v6, v7, v8, v9] := by
  match vs, h with
  | v :: r, h =>
    obtain ⟨v0, v1, v2, v3, v4, v5, v6, v7, v8, rfl⟩ := len9 (vs := r) (by simpa using h)
    exact ⟨v, v0, v1, v2, v3, v4, v5, v6, v7, v8, rfl⟩
theorem len11 {vs : List Value} (h : vs.length = 11) : ∃ v0 v1 v2 v3 v4 v5 v6 v7 v8 v9 v10, vs = [v0, v1, v2, v3, v4, v5, v6, v7, v8, v9, v10] := by
  match vs, h with
  | v :: r, h =>
    obtain ⟨v0, v1, v2, v3, v4, v5, v6, v7, v8, v9, rfl⟩ := len10 (vs := r) (by simpa using h)
    exact ⟨v, v0, v1, v2, v3, v4, v5, v6, v7, v8, v9, rfl⟩
theorem len12 {vs : List Value} (h : vs.length = 12) : ∃ v0 v1 v2 v3 v4 v5 v6 v7 v8 v9 v10 v11, vs = [v0, v1, v2, v3, v4, v5, v6, v7, v8, v9, v10, v11] := by
  match vs, h with
  | v :: r, h =>
    obtain ⟨v0, v1, v2, v3, v4, v5, v6, v7, v8, v9, v10, rfl⟩ := len11 (vs := r) (by simpa using h)
    exact ⟨v, v0, v1, v2, v3, v4, v5, v6, v7, v8, v9, v10, rfl⟩
theorem len13 {vs : List Value} (h : vs.length = 13) : ∃ v0 v1 v2 v3 v4 v5 v6 v7 v8 v9 v10 v11 v12, vs = [v0, v1, v2, v3, v4, v5, v6, v7, v8, v9, v10, v11, v12] := by
  match vs, h with
  | v :: r, h =>
    obtain ⟨v0, v1, v2, v3, v4, v5, v6, v7, v8, v9, v10, v11, rfl⟩ := len12 (vs := r) (by simpa using h)
    exact ⟨v, v0, v1, v2, v3, v4, v5, v6, v7, v8, v9, v10, v11, rfl⟩
theorem len14 {vs : List Value} (h : vs.length = 14) : ∃ v0 v1 v2 v3 v4 v5 v6 v7 v8 v9 v10 v11 v12 v13, vs = [v0, v1, v2, v3, v4, v5, v6, v7, v8, v9, v10, v11, v12, v13] := by
  match vs, h with
  | v :: r, h =>
    obtain ⟨v0, v1, v2, v3, v4, v5, v6, v7, v8, v9, v10, v11, v12, rfl⟩ := len13 (vs := r) (by simpa using h)
    exact ⟨v, v0, v1, v2, v3, v4, v5, v6, v7, v8, v9, v10, v11, v12, rfl⟩
theorem len15 {vs : List Value} (h : vs.length = 15) : ∃ v0 v1 v2 v3 v4 v5 v6 v7 v8 v9 v10 v11 v12 v13 v14, vs = [v0, v1, v2, v3, v4, v5, v6, v7, v8, v9, v10, v11, v12, v13, v14] := by
  match vs, h with
  | v :: r, h =>
    obtain ⟨v0, v1, v2, v3, v4, v5, v6, v7, v8, v9, v10, v11, v12, v13, rfl⟩ := len14 (vs := r) (by simpa using h)
    exact ⟨v, v0, v1, v2, v3, v4, v5, v6, v7, v8, v9, v10, v11, v12, v13, rfl⟩
theorem len16 {vs : List Value} (h : vs.length = 16) : ∃ v0 v1 v2 v3 v4 v5 v6 v7 v8 v9 v10 v11 v12 v13 v14 v15, vs = [v0, v1, v2, v3, v4, v5, v6, v7, v8, v9, v10, v11, v12, v13, v14, v15] := by
  match vs, h with
  | v :: r, h =>
    obtain ⟨v0, v1, v2, v3, v4, v5, v6, v7, v8, v9, v10, v11, v12, v13, v14, rfl⟩ := len15 (vs := r) (by simpa using h)
    exact ⟨v, v0, v1, v2, v3, v4, v5, v6, v7, v8, v9, v10, v11, v12, v13, v14, rfl⟩
theorem len17 {vs : List Value} (h : vs.length = 17) : ∃ v0 v1 v2 v3 v4 v5 v6 v7 v8 v9 v10 v11 v12 v13 v14 v15 v16, vs = [v0, v1, v2, v3, v4, v5, v6, v7, v8, v9, v10, v11, v12, v13, v14, v15, v16] := by
  match vs, h with
  | v :: r, h =>
    obtain ⟨v0, v1, v2, v3, v4, v5, v6, v7, v8, v9, v10, v11, v12, v13, v14, v15, rfl⟩ := len16 (vs := r) (by simpa using h)
    exact ⟨v, v0, v1, v2, v3, v4, v5, v6, v7, v8, v9, v10, v11, v12, v13, v14, v15, rfl⟩
theorem len18 {vs : List Value} (h : vs.length = 18) : ∃ v0 v1 v2 v3 v4 v5 v6 v7 v8 v9 v10 v11 v12 v13 v14 v15 v16 v17, vs = [v0, v1, v2, v3, v4, v5, v6, v7, v8, v9, v10, v11, v12, v13, v14, v15, v16, v17] := by
  match vs, h with
  | v :: r, h =>
    obtain ⟨v0, v1, v2, v3, v4, v5, v6, v7, v8, v9, v10, v11, v12, v13, v14, v15, v16, rfl⟩ := len17 (vs := r) (by simpa using h)
    exact ⟨v, v0, v1, v2, v3, v4, v5, v6, v7, v8, v9, v10, v11, v12, v13, v14, v15, v16, rfl⟩
theorem len19 {vs : List Value} (h : vs.length = 19) : ∃ v0 v1 v2 v3 v4 v5 v6 v7 v8 v9 v10 v11 v12 v13 v14 v15 v16 v17 v18, vs = [v0, v1, v2, v3, v4, v5, v6, v7, v8, v9, v10, v11, v12, v13, v14, v15, v16, v17, v18] := by
  match vs, h with
  | v :: r, h =>
    obtain ⟨v0, v1, v2, v3, v4, v5, v6, v7, v8, v9, v10, v11, v12, v13, v14, v15, v16, v17, rfl⟩ := len18 (vs := r) (by simpa using h)
    exact ⟨v, v0, v1, v2, v3, v4, v5, v6, v7, v8, v9, v10, v11, v12, v13, v14, v15, v16, v17, rfl⟩
theorem len20 {vs : List Value} (h : vs.length = 20) : ∃ v0 v1 v2 v3 v4 v5 v6 v7 v8 v9 v10 v11 v12 v13 v14 v15 v16 v17 v18 v19, vs = [v0, v1, v2, v3, v4, v5, v6, v7, v8, v9, v10, v11, v12, v13, v14, v15, v16, v17, v18, v19] := by
  match vs, h with
  | v :: r, h =>
    obtain ⟨v0, v1, v2, v3, v4, v5, v6, v7, v8, v9, v10, v11, v12, v13, v14, v15, v16, v17, v18, rfl⟩ := len19 (vs := r) (by simpa using h)
    exact ⟨v, v0, v1, v2, v3, v4, v5, v6, v7, v8, v9, v10, v11, v12, v13, v14, v15, v16, v17, v18, rfl⟩
theorem len21 {vs : List Value} (h : vs.length = 21) : ∃ v0 v1 v2 v3 v4 v5 v6 v7 v8 v9 v10 v11 v12 v13 v14 v15 v16 v17 v18 v19 v20, vs = [v0, v1, v2, v3, v4, v5, v6, v7, v8, v9, v10, v11, v12, v13, v14, v15, v16, v17, v18, v19, v20] := by
  match vs, h with
  | v :: r, h =>
    obtain ⟨v0, v1, v2, v3, v4, v5, v6, v7, v8, v9, v10, v11, v12, v13, v14, v15, v16, v17, v18, v19, rfl⟩ := len20 (vs := r) (by simpa using h)
    exact ⟨v, v0, v1, v2, v3, v4, v5, v6, v7, v8, v9, v10, v11, v12, v13, v14, v15, v16, v17, v18, v19, rfl⟩
theorem len22 {vs : List Value} (h : vs.length = 22) : ∃ v0 v1 v2 v3 v4 v5 v6 v7 v8 v9 v10 v11 v12 v13 v14 v15 v16 v17 v18 v19 v20 v21, vs = [v0, v1, v2, v3, v4, v5, v6, v7, v8, v9, v10, v11, v12, v13, v14, v15, v16, v17, v18, v19, v20, v21] := by
  match vs, h with
  | v :: r, h =>
    obtain ⟨v0, v1, v2, v3, v4, v5, v6, v7, v8, v9, v10, v11, v12, v13, v14, v15, v16, v17, v18, v19, v20, rfl⟩ := len21 (vs := r) (by simpa using h)
    exact ⟨v, v0, v1, v2, v3, v4, v5, v6, v7, v8, v9, v10, v11, v12, v13, v14, v15, v16, v17, v18, v19, v20, rfl⟩
theorem len23 {vs : List Value} (h : vs.length = 23) : ∃ v0 v1 v2 v3 v4 v5 v6 v7 v8 v9 v10 v11 v12 v13 v14 v15 v16 v17 v18 v19 v20 v21 v22, vs = [v0, v1, v2, v3, v4, v5, v6, v7, v8, v9, v10, v11, v12, v13, v14, v15, v16, v17, v18, v19, v20, v21, v22] := by
  match vs, h with
  | v :: r, h =>
    obtain ⟨v0, v1, v2, v3, v4, v5, v6, v7, v8, v9, v10, v11, v12, v13, v14, v15, v16, v17, v18, v19, v20, v21, rfl⟩ := len22 (vs := r) (by simpa using h)
    exact ⟨v, v0, v1, v2, v3, v4, v5, v6, v7, v8, v9, v10, v11, v12, v13, v14, v15, v16, v17, v18, v19, v20, v21, rfl⟩
theorem len24 {vs : List Value} (h : vs.length = 24) : ∃ v0 v1 v2 v3 v4 v5 v6 v7 v8 v9 v10 v11 v12 v13 v14 v15 v16 v17 v18 v19 v20 v21 v22 v23, vs = [v0, v1, v2, v3, v4, v5, v6, v7, v8, v9, v10, v11, v12, v13, v14, v15, v16, v17, v18, v19, v20, v21, v22, v23] := by
  match vs, h with
  | v :: r, h =>
    obtain ⟨v0, v1, v2, v3, v4, v5, v6, v7, v8, v9, v10, v11, v12, v13, v14, v15, v16, v17, v18, v19, v20, v21, v22, rfl⟩ := len23 (vs := r) (by simpa using h)
    exact ⟨v, v0, v1, v2, v3, v4, v5, v6, v7, v8, v9, v10, v11, v12, v13, v14, v15, v16, v17, v18, v19, v20, v21, v22, rfl⟩
theorem len25 {vs : List Value} (h : vs.length = 25) : ∃ v0 v1 v2 v3 v4 v5 v6 v7 v8 v9 v10 v11 v12 v13 v14 v15 v16 v17 v18 v19 v20 v21 v22 v23 v24, vs = [v0, v1, v2, v3, v4, v5, v6, v7, v8, v9, v10, v11, v12, v13, v14, v15, v16, v17, v18, v19, v20, v21, v22, v23, v24] := by
  match vs, h with
  | v :: r, h =>
    obtain ⟨v0, v1, v2, v3, v4, v5, v6, v7, v8, v9, v10, v11, v12, v13, v14, v15, v16, v17, v18, v19, v20, v21, v22, v23, rfl⟩ := len24 (vs := r) (by simpa using h)
    exact ⟨v, v0, v1, v2, v3, v4, v5, v6, v7, v8, v9, v10, v11, v12, v13, v14, v15, v16, v17, v18, v19, v20, v21, v22, v23, rfl⟩
theorem len26 {vs : List Value} (h : vs.length = 26) : ∃ v0 v1 v2 v3 v4 v5 v6 v7 v8 v9 v10 v11 v12 v13 v14 v15 v16 v17 v18 v19 v20 v21 v22 v23 v24 v25, vs = [v0, v1, v2, v3, v4, v5, v6, v7, v8, v9, v10, v11, v12, v13, v14, v15, v16, v17, v18, v19, v20, v21, v22, v23, v24, v25] := by
  match vs, h with
  | v :: r, h =>
    obtain ⟨v0, v1, v2, v3, v4, v5, v6, v7, v8, v9, v10, v11, v12, v13, v14, v15, v16, v17, v18, v19, v20, v21, v22, v23, v24, rfl⟩ := len25 (vs := r) (by simpa using h)
    exact ⟨v, v0, v1, v2, v3, v4, v5, v6, v7, v8, v9, v10, v11, v12, v13, v14, v15, v16, v17, v18, v19, v20, v21, v22, v23, v24, rfl⟩
end Go.Proofs.Ytbjpdelammffpaa.Rg
/- A region that draws its order, all of whose operations only read, reckon, call or set slots: what each yields is told once; none has to be the last one. -/
namespace Go.Proofs.Ytbjpdelammffpaa.Rg
open Go Go.RowKit
section
variable {P : Program} {ops : Array Oper} {Q : Exit → Act → World → Prop}
def plainE (ops : Array Oper) (ds : List Tmp) : Bool :=
  (ops.size == ds.length) && (List.range ds.length).all (fun i => match ops[i]? with | some o => (o.dst == ds[i]?) && o.after.all (fun e => !(Region.binds .any e) || decide (e.on < i)) | none => false) && decide ds.Nodup
theorem region_every {id : Nat} {a0 : Act} {w0 : World} (hm : P.follows .mixedOrders = true) (ds : List Tmp) (hds : plainE ops ds = true) (vs0 : List Value) (hvs0 : vs0.length = ds.length) (ha0 : fill a0 ds vs0 = a0)
    (V : Nat → Value → World → Prop) (hV : ∀ i v w w', V i v w → Below w.heap.size w w' → V i v w')
    (hstep : ∀ i, i < ds.length → ∀ oi, ops[i]? = some oi → ∀ vs, vs.length = ds.length → ∀ w, Below w0.drew.heap.size w0.drew w → (∀ e ∈ oi.after, Region.binds .any e = true → V e.on (vs.getD e.on undef) w) →
      ∀ K : Act → World → Prop, (∀ v w', Below w.heap.size w w' → V i v w' → K ((fill a0 ds vs).put oi.dst v) w') →
        if Region.wanted oi (yielded ops (fill a0 ds vs).tmps) = true then oi.wp P (fill a0 ds vs) w K Q else K ((fill a0 ds vs).put oi.dst undef) w)
    (hend : ∀ vs, vs.length = ds.length → ∀ w, Below w0.drew.heap.size w0.drew w → (∀ j, j < ds.length → V j (vs.getD j undef) w) → Q .normal (fill a0 ds vs) w) :
    (Code.region id ops true).wp P Q a0 w0 := by
  unfold plainE at hds
  simp only [Bool.and_eq_true, beq_iff_eq, decide_eq_true_eq] at hds
  obtain ⟨⟨hsz, hall⟩, hnd⟩ := hds
  refine wp_region_any hm ?_
  have hTF : ∀ (listed : Array Bool) (j : Nat), listed.getD j false = true → listed.getD j true = true := fun listed j h => by
    rcases Nat.lt_or_ge j listed.size with h' | h'
    · simpa [Array.getD, h'] using h
    · simp [Array.getD, Nat.not_lt.2 h'] at h
  refine wpAny_inv (I := fun listed a w => listed.size = ops.size ∧
      ∃ vs, vs.length = ds.length ∧ a = fill a0 ds vs ∧ Below w0.drew.heap.size w0.drew w ∧ ∀ j, j < ds.length → listed.getD j true = true → V j (vs.getD j undef) w) ?_ ?_ _ _ _ _ (by simp) ?_ ?_
  · intro listed a w hI i hi
    obtain ⟨hsl, hI⟩ := hI
    obtain ⟨hun, oi, hoi, haft⟩ := mem_ready.1 hi
    have hio : i < ops.size := (Array.getElem?_eq_some_iff.1 hoi).1
    unfold wpOp
    rw [hoi]
    simp only
    have hid : i < ds.length := by omega
    have h1 := List.all_eq_true.1 hall i (List.mem_range.2 hid)
    rw [hoi] at h1
    simp only [Bool.and_eq_true, beq_iff_eq] at h1
    obtain ⟨hdst, hon⟩ := h1
    obtain ⟨vs, hl, rfl, hb, hv⟩ := hI
    have hgo : ∀ a' w', (∃ v, a' = (fill a0 ds vs).put oi.dst v ∧ Below w.heap.size w w' ∧ V i v w') →
        (listed.setIfInBounds i true).size = ops.size ∧
          ∃ vs, vs.length = ds.length ∧ a' = fill a0 ds vs ∧ Below w0.drew.heap.size w0.drew w' ∧ ∀ j, j < ds.length → (listed.setIfInBounds i true).getD j true = true → V j (vs.getD j undef) w' := by
      rintro a' w' ⟨v, rfl, hbw, hvi⟩
      refine ⟨by simpa using hsl, ?_⟩
      have hdi : ds[i]? = some ds[i] := List.getElem?_eq_getElem hid
      rw [hdst, hdi, fill_set hnd hl hdi]
      refine ⟨_, by simpa using hl, rfl, hb.trans (hbw.mono hb.size), fun j hj hjl => ?_⟩
      by_cases hji : i = j
      · subst hji
        rw [List.getD_eq_getElem?_getD, List.getElem?_set_self (by omega)]
        exact hvi
      · rw [getD_set_ne true hji] at hjl
        have := hV j _ _ _ (hv j hj hjl) hbw
        rw [List.getD_eq_getElem?_getD, List.getElem?_set_ne hji, ← List.getD_eq_getElem?_getD]
        exact this
    have hs := hstep i hid oi hoi vs hl w hb (fun e he hbd => by
      have hlt : e.on < ds.length := by
        have := Array.all_eq_true_iff_forall_mem.1 hon e he
        rw [hbd] at this
        have : e.on < i := by simpa using this
        omega
      exact hv e.on hlt (hTF _ _ (haft e he hbd))) (fun a' w' => ∃ v, a' = (fill a0 ds vs).put oi.dst v ∧ Below w.heap.size w w' ∧ V i v w') (fun v w' hb hv => ⟨v, rfl, hb, hv⟩)
    by_cases hwt : Region.wanted oi (yielded ops (fill a0 ds vs).tmps) = true
    · rw [if_pos hwt] at hs ⊢
      exact .inl (Oper.wp_mono hgo hs)
    · rw [if_neg hwt] at hs ⊢
      exact hgo _ _ hs
  · intro listed a w hI hr
    obtain ⟨hsl, vs, hl, rfl, hb, hv⟩ := hI
    refine hend vs hl w hb fun m hm2 => hv m hm2 ?_
    -- the first that has not come up could come up
    refine Classical.byContradiction fun hn => ?_
    have hn' : listed.getD m true = false := by simpa using hn
    have hleast : ∀ m, m < ds.length → listed.getD m true = false → ∃ i, i < ds.length ∧ listed.getD i true = false ∧ ∀ j, j < i → listed.getD j true = true := by
      intro m
      induction m using Nat.strongRecOn with
      | _ m ih =>
        intro hm hmf
        by_cases hex : ∃ j, j < m ∧ listed.getD j true = false
        · obtain ⟨j, hj, hjf⟩ := hex
          exact ih j hj (by omega) hjf
        · refine ⟨m, hm, hmf, fun j hj => ?_⟩
          cases hb : listed.getD j true with
          | true => rfl
          | false => exact absurd ⟨j, hj, hb⟩ hex
    obtain ⟨i, hid, hif, hil⟩ := hleast _ hm2 hn'
    have hi : i < listed.size := by omega
    have hTF' : ∀ j, j < i → listed.getD j false = true := fun j hj => by
      have := hil j hj
      have hj' : j < listed.size := by omega
      simpa [Array.getD, hj'] using this
    have hio : i < ops.size := by omega
    have hmem : i ∈ Region.ready .any ops listed := by
      refine mem_ready.2 ⟨hif, ops[i], Array.getElem?_eq_getElem hio, fun e he hbd => hTF' e.on ?_⟩
      have h1 := List.all_eq_true.1 hall i (List.mem_range.2 hid)
      rw [Array.getElem?_eq_getElem hio] at h1
      simp only [Bool.and_eq_true] at h1
      have := Array.all_eq_true_iff_forall_mem.1 h1.2 e he
      rw [hbd] at this
      simpa using this
    rw [hr] at hmem
    cases hmem
  · unfold left
    exact Nat.le_trans List.countP_le_length (by simp)
  · refine ⟨by simp, ?_⟩
    have hf : ∀ j, j < ops.size → (Array.replicate ops.size false).getD j true = false := fun j hj => by simp [Array.getD, hj]
    refine ⟨vs0, hvs0, ha0.symm, Below.refl _ _, fun j hj hjl => ?_⟩
    rw [hf j (by omega)] at hjl
    cases hjl
def EndOk (Q : Exit → Act → World → Prop) (a0 : Act) (W : World) (ds : List Tmp) (Vs : List (Value → World → Prop)) : Prop :=
  ∀ vs : List Value, vs.length = ds.length → ∀ w, Below W.heap.size W w → Known Vs vs w (seqFrom 0 ds) → Q .normal (fill a0 ds vs) w
def StepsE (P : Program) (ops : Array Oper) (Q : Exit → Act → World → Prop) (a0 : Act) (W : World) (ds : List Tmp) (Vs : List (Value → World → Prop)) : Nat → List Oper → Prop
  | _, [] => True
  | i, o :: r => PlainOk P Q a0 W ds Vs i o ∧ StepsE P ops Q a0 W ds Vs (i + 1) r
theorem stepsE_at {a0 : Act} {W : World} {ds : List Tmp} {Vs : List (Value → World → Prop)} : ∀ {l : List Oper} {k : Nat}, StepsE P ops Q a0 W ds Vs k l →
    ∀ i o, l[i]? = some o → PlainOk P Q a0 W ds Vs (k + i) o := by
  intro l
  induction l with
  | nil => intro k _ i o h; simp at h
  | cons o0 r ih =>
    intro k h i o ho
    cases i with
    | zero =>
      obtain rfl : o0 = o := by simpa using ho
      exact h.1
    | succ i =>
      have := ih h.2 i o (by simpa using ho)
      rwa [show k + 1 + i = k + (i + 1) by omega] at this
theorem region_each {id : Nat} {l : List Oper} {a0 : Act} {w0 : World} (hm : P.follows .mixedOrders = true) (ds : List Tmp) (vs0 : List Value) (Vs : List (Value → World → Prop))
    (hds : plainE l.toArray ds = true) (hng : (l.all fun o => o.guard.isNone) = true) (hvs0 : vs0.length = ds.length) (ha0 : fill a0 ds vs0 = a0) (hV : StableAll Vs) (h : StepsE P l.toArray Q a0 w0.drew ds Vs 0 l) (he : EndOk Q a0 w0.drew ds Vs) : (Code.region id l.toArray true).wp P Q a0 w0 := by
  have h1 := stepsE_at h
  refine region_every hm ds hds vs0 hvs0 ha0 (predAt Vs) (stable_at hV) ?_ ?_
  · intro i hi oi hoi vs hl w hb hd K hK
    have hoi' : l[i]? = some oi := by simpa using hoi
    have := h1 i oi hoi'
    rw [Nat.zero_add] at this
    have hg : oi.guard = none := by
      have hmem : oi ∈ l := List.mem_of_getElem? hoi'
      have := List.all_eq_true.1 hng oi hmem
      simpa using this
    rw [if_pos (by simp [Region.wanted, hg])]
    refine (this vs hl w hb (known_of fun j hj => ?_) K hK).out
    obtain ⟨e, he, rfl⟩ := List.mem_map.1 hj
    obtain ⟨he1, he2⟩ := List.mem_filter.1 he
    exact hd e (by simpa using he1) he2
  · intro vs hl w hb hd
    exact he vs hl w hb (known_of fun j hj => hd j (by have := (mem_seqFrom hj).2; omega))
end
end Go.Proofs.Ytbjpdelammffpaa.Rg
/- A region that draws its order, whose operations read, reckon, call, make variables and fill them: what each does is told once, whatever the order. -/
namespace Go.Proofs.Ytbjpdelammffpaa.Rs
open Go Go.RowKit Go.Proofs.Ytbjpdelammffpaa.Rg
set_option linter.unusedVariables false
/-- The frame with these slots filled; an operation without a slot fills none. -/
def fillO (a : Act) (ds : List (Option Tmp)) (vs : List Value) : Act := { a with tmps := (ds.zip vs).foldl (fun t x => match x.1 with | some d => t.setIfInBounds d x.2 | none => t) a.tmps }
def step1 (t : Array Value) (x : Option Tmp × Value) : Array Value := match x.1 with | some d => t.setIfInBounds d x.2 | none => t
theorem fold_comm : ∀ (l : List (Option Tmp × Value)) (t : Array Value) (d : Tmp) (v : Value), (∀ x ∈ l, x.1 ≠ some d) → (l.foldl step1 t).setIfInBounds d v = l.foldl step1 (t.setIfInBounds d v) := by
  intro l
  induction l with
  | nil => intro t d v _; rfl
  | cons x l ih =>
    intro t d v h
    simp only [List.foldl_cons]
    rw [ih _ _ _ (fun y hy => h y (List.mem_cons_of_mem _ hy))]
    congr 1
    obtain ⟨xd, xv⟩ := x
    cases xd with
    | none => rfl
    | some e =>
      have hne : e ≠ d := fun he => h _ List.mem_cons_self (by rw [he])
      exact Array.setIfInBounds_comm _ _ hne
theorem fold_set : ∀ {ds : List (Option Tmp)} {vs : List Value} {i : Nat} {d : Option Tmp} {v : Value} {t : Array Value}, (ds.filterMap id).Nodup → vs.length = ds.length → ds[i]? = some d →
    step1 ((ds.zip vs).foldl step1 t) (d, v) = (ds.zip (vs.set i v)).foldl step1 t := by
  intro ds
  induction ds with
  | nil => intro vs i d v t hnd hl hd; simp at hd
  | cons d0 ds ih =>
    intro vs i d v t hnd hl hd
    cases vs with
    | nil => simp at hl
    | cons v0 vs =>
      have hn : (ds.filterMap id).Nodup := by
        cases d0 with
        | none => exact hnd
        | some e => exact (List.nodup_cons.1 hnd).2
      cases i with
      | zero =>
        obtain rfl : d0 = d := by simpa using hd
        simp only [List.zip_cons_cons, List.foldl_cons, List.set_cons_zero]
        cases d0 with
        | none => rfl
        | some e =>
          have hn0 := (List.nodup_cons.1 hnd).1
          show (List.foldl step1 _ _).setIfInBounds e v = _
          rw [fold_comm]
          · simp only [step1, Array.setIfInBounds_setIfInBounds]
          · intro x hx he
            have hm := (List.of_mem_zip hx).1
            rw [he] at hm
            exact hn0 (List.mem_filterMap.2 ⟨_, hm, rfl⟩)
      | succ i =>
        simp only [List.zip_cons_cons, List.foldl_cons, List.set_cons_succ]
        exact ih hn (by simpa using hl) (by simpa using hd)
theorem fillO_set {a : Act} {ds : List (Option Tmp)} {vs : List Value} {i : Nat} {d : Option Tmp} {v : Value} (hnd : (ds.filterMap id).Nodup) (hl : vs.length = ds.length) (hd : ds[i]? = some d) : (fillO a ds vs).put d v = fillO a ds (vs.set i v) := by
  have h := fold_set (v := v) (t := a.tmps) hnd hl hd
  show _ = ({ a with tmps := (ds.zip (vs.set i v)).foldl step1 a.tmps } : Act)
  rw [← h]
  cases d <;> rfl

/-- What an operation does: it yields a value of which p; it makes a variable (type t, as z is), which operation k fills so that q; it fills the variable of operation j. -/
inductive Sp where
  | val (p : Value → Prop)
  | new (t : TypeId) (z : Array Value) (k : Nat) (q : Array Value → Prop)
  | put (j : Nat)
def Sp.isNew : Sp → Bool
  | .new .. => true
  | _ => false
/-- The made variable at g, and what it holds. -/
def At (W0 : World) (w : World) (g : Nat) (t : TypeId) (p : Array Value → Prop) : Prop := W0.heap.size ≤ g ∧ g < w.heap.size ∧ ∃ cs, w.heap[g]? = some (.cells cs t (0, 0)) ∧ p cs
def Have (S : List Sp) (W0 : World) (D : Nat → Bool) (vs : List Value) (w : World) (i : Nat) : Prop :=
  match S[i]? with
  | some (.val p) => p (vs.getD i undef)
  | some (.new t z k q) => ∃ g, vs.getD i undef = .pointer (some ⟨g, 0, none⟩) ∧ At W0 w g t (fun cs => (D k = true → q cs) ∧ (D k = false → cs = z))
  | _ => True
/-- What an operation may lean on of one that it waits for. -/
def Lean1 (S : List Sp) (W0 : World) (vs : List Value) (w : World) (i : Nat) : Prop :=
  match S[i]? with
  | some (.val p) => p (vs.getD i undef)
  | some (.new t z k q) => ∃ g, vs.getD i undef = .pointer (some ⟨g, 0, none⟩) ∧ At W0 w g t (fun cs => cs = z ∨ q cs)
  | some (.put j) => match S[j]? with
    | some (.new t z k q) => ∃ g, vs.getD j undef = .pointer (some ⟨g, 0, none⟩) ∧ At W0 w g t q
    | _ => True
  | none => True
def LeanAll (S : List Sp) (W0 : World) (vs : List Value) (w : World) : List Nat → Prop
  | [] => True
  | j :: js => Lean1 S W0 vs w j ∧ LeanAll S W0 vs w js
theorem leanAll_of {S : List Sp} {W0 : World} {vs : List Value} {w : World} {l : List Nat} (h : ∀ j ∈ l, Lean1 S W0 vs w j) : LeanAll S W0 vs w l := by
  induction l with
  | nil => trivial
  | cons j js ih => exact ⟨h j List.mem_cons_self, ih (fun k hk => h k (List.mem_cons_of_mem _ hk))⟩
/-- One block is changed, and nothing else. -/
structure Filled (w w' : World) (g : Nat) (t : TypeId) (q : Array Value → Prop) : Prop where
  os : w'.os = w.os
  tape : w'.tape = w.tape
  output : w'.output = w.output
  size : w'.heap.size = w.heap.size
  other : ∀ b, b ≠ g → w'.heap[b]? = w.heap[b]?
  here : ∃ cs, w'.heap[g]? = some (.cells cs t (0, 0)) ∧ q cs
section
variable {P : Program} {ops : Array Oper} {Q : Exit → Act → World → Prop}
def OpOk (P : Program) (ops : Array Oper) (Q : Exit → Act → World → Prop) (a0 : Act) (W0 : World) (ds : List (Option Tmp)) (S : List Sp) (o : Oper) (s : Sp) : Prop :=
  ∀ vs : List Value, vs.length = ds.length → ∀ w, Below W0.heap.size W0 w → LeanAll S W0 vs w (deps o) →
    match s with
    | .val p => ∀ K : Act → World → Prop, (∀ v w', Below w.heap.size w w' → p v → K ((fillO a0 ds vs).put o.dst v) w') → Still (if Region.wanted o (yielded ops (fillO a0 ds vs).tmps) = true then o.wp P (fillO a0 ds vs) w K Q else K ((fillO a0 ds vs).put o.dst undef) w)
    | .new t z k q => ∀ K : Act → World → Prop, K ((fillO a0 ds vs).put o.dst (.pointer (some ⟨w.heap.size, 0, none⟩))) (w.alloc (.cells z t)) → Still (if Region.wanted o (yielded ops (fillO a0 ds vs).tmps) = true then o.wp P (fillO a0 ds vs) w K Q else K ((fillO a0 ds vs).put o.dst undef) w)
    | .put j => match S[j]? with
      | some (.new t z k q) => ∀ g, vs.getD j undef = .pointer (some ⟨g, 0, none⟩) → w.heap[g]? = some (.cells z t (0, 0)) → ∀ K : Act → World → Prop, (∀ w', Filled w w' g t q → K (fillO a0 ds vs) w') → Still (if Region.wanted o (yielded ops (fillO a0 ds vs).tmps) = true then o.wp P (fillO a0 ds vs) w K Q else K ((fillO a0 ds vs).put o.dst undef) w)
      | _ => False
def AllOk (P : Program) (ops : Array Oper) (Q : Exit → Act → World → Prop) (a0 : Act) (W0 : World) (ds : List (Option Tmp)) (S : List Sp) : List Oper → List Sp → Prop
  | o :: r, s :: r' => OpOk P ops Q a0 W0 ds S o s ∧ AllOk P ops Q a0 W0 ds S r r'
  | [], [] => True
  | _, _ => False
theorem allOk_at {a0 : Act} {W0 : World} {ds : List (Option Tmp)} {S : List Sp} : ∀ {l : List Oper} {l' : List Sp}, AllOk P ops Q a0 W0 ds S l l' → ∀ (i : Nat) (o : Oper) (s : Sp), l[i]? = some o → l'[i]? = some s → OpOk P ops Q a0 W0 ds S o s := by
  intro l
  induction l with
  | nil => intro l' _ i o s h; simp at h
  | cons o0 r ih =>
    intro l' h i o s ho hs
    cases l' with
    | nil => exact h.elim
    | cons s0 r' =>
      cases i with
      | zero =>
        obtain rfl : o0 = o := by simpa using ho
        obtain rfl : s0 = s := by simpa using hs
        exact h.1
      | succ i => exact ih h.2 i o s (by simpa using ho) (by simpa using hs)
/-- The operations wait for earlier ones alone, each slot is filled once, and made variables and fillings belong together. -/
def okSp (ops : Array Oper) (ds : List (Option Tmp)) (S : List Sp) : Bool :=
  (ops.size == ds.length) && (S.length == ds.length) && (List.range ds.length).all (fun i => match ops[i]? with | some o => (some o.dst == ds[i]?) && o.after.all (fun e => !(Region.binds .any e) || decide (e.on < i)) | none => false) &&
  decide (ds.filterMap id).Nodup &&
  (List.range ds.length).all (fun i => match S[i]? with
    | some (.new t z k q) => (decide (ds.length ≤ k) || (match S[k]? with | some (.put j) => j == i | _ => false))
    | some (.put j) => (ds[i]? == some none) && (match S[j]? with | some (.new t z k q) => k == i | _ => false) && (match ops[i]? with | some o => o.after.any (fun e => Region.binds .any e && e.on == j) | none => false)
    | _ => true)
def Apart (S : List Sp) (vs : List Value) : Prop := ∀ i j, i ≠ j → (match S[i]? with | some s => s.isNew | none => false) = true → (match S[j]? with | some s => s.isNew | none => false) = true → vs.getD i undef ≠ vs.getD j undef
def EndsOk (Q : Exit → Act → World → Prop) (a0 : Act) (W0 : World) (ds : List (Option Tmp)) (S : List Sp) : Prop :=
  ∀ vs : List Value, vs.length = ds.length → ∀ w, Below W0.heap.size W0 w → LeanAll S W0 vs w (seqO 0 ds) → Apart S vs → Q .normal (fillO a0 ds vs) w
where seqO : Nat → List (Option Tmp) → List Nat
  | _, [] => []
  | k, _ :: r => k :: seqO (k + 1) r
theorem mem_seqO : ∀ {ds : List (Option Tmp)} {k j : Nat}, j ∈ EndsOk.seqO k ds → k ≤ j ∧ j < k + ds.length := by
  intro ds
  induction ds with
  | nil => intro k j h; cases h
  | cons d r ih =>
    intro k j h
    rcases List.mem_cons.1 h with rfl | h
    · simp
    · have := ih h
      simp only [List.length_cons]
      omega
theorem dSet_self {l : Array Bool} {i : Nat} (h : i < l.size) : (l.setIfInBounds i true).getD i false = true := by simp [Array.getD, h]
theorem dSet_ne {l : Array Bool} {i j : Nat} (h : i ≠ j) : (l.setIfInBounds i true).getD j false = l.getD j false := getD_set_ne false h
theorem dOut {l : Array Bool} {i : Nat} (h : l.size ≤ i) : l.getD i false = false := by simp [Array.getD, Nat.not_lt.2 h]
structure Inv (S : List Sp) (W0 : World) (n : Nat) (listed : Array Bool) (vs : List Value) (w : World) : Prop where
  below : Below W0.heap.size W0 w
  have_ : ∀ j, j < n → listed.getD j false = true → Have S W0 (fun k => listed.getD k false) vs w j
  apart : ∀ i j, i ≠ j → listed.getD i false = true → listed.getD j false = true → (match S[i]? with | some s => s.isNew | none => false) = true → (match S[j]? with | some s => s.isNew | none => false) = true → vs.getD i undef ≠ vs.getD j undef
  putAfter : ∀ k j : Nat, S[k]? = some (Sp.put j) → listed.getD k false = true → listed.getD j false = true
theorem getD_setSelf {vs : List Value} {i : Nat} {v : Value} (h : i < vs.length) : (vs.set i v).getD i undef = v := by
  rw [List.getD_eq_getElem?_getD, List.getElem?_set_self h]; rfl
theorem getD_setNe {vs : List Value} {i j : Nat} {v : Value} (h : i ≠ j) : (vs.set i v).getD j undef = vs.getD j undef := by
  rw [List.getD_eq_getElem?_getD, List.getElem?_set_ne h, ← List.getD_eq_getElem?_getD]
theorem at_below {W0 w w' : World} {g : Nat} {t : TypeId} {p p' : Array Value → Prop} (h : At W0 w g t p) (hb : Below w.heap.size w w') (hp : ∀ cs, p cs → p' cs) : At W0 w' g t p' := by
  obtain ⟨h1, h2, cs, h3, h4⟩ := h
  exact ⟨h1, Nat.lt_of_lt_of_le h2 hb.size, cs, (hb.block g h2).trans h3, hp _ h4⟩
/-- What holds after a step that keeps all blocks. -/
theorem inv_val {S : List Sp} {W0 : World} {n : Nat} {listed : Array Bool} {vs : List Value} {w w' : World} {i : Nat} {v : Value} (hI : Inv S W0 n listed vs w) (hin : i < n) (hln : listed.size = n) (hvn : vs.length = n)
    (hb : Below w.heap.size w w') (hS : (match S[i]? with | some s => s.isNew | none => false) = false) (hk : ∀ (j : Nat) t z k q, S[j]? = some (Sp.new t z k q) → k ≠ i) (hpp : ∀ j, S[i]? ≠ some (Sp.put j)) (hp : ∀ p, S[i]? = some (Sp.val p) → p v) : Inv S W0 n (listed.setIfInBounds i true) (vs.set i v) w' := by
  refine ⟨hI.below.trans (hb.mono hI.below.size), fun j hj hjl => ?_, fun a b hab ha hb' hna hnb => ?_, fun k j hkj hkl => ?_⟩
  · by_cases hji : i = j
    · subst hji
      unfold Have
      cases hSi : S[i]? with
      | none => trivial
      | some s =>
        cases s with
        | val p => simp only; rw [getD_setSelf (by omega)]; exact hp p hSi
        | new t z k q => rw [hSi] at hS; cases hS
        | put j => exact trivial
    · have h := hI.have_ j hj ((dSet_ne hji).symm.trans hjl)
      unfold Have at h ⊢
      rw [getD_setNe hji]
      cases hSj : S[j]? with
      | none => trivial
      | some s =>
        rw [hSj] at h
        cases s with
        | val p => exact h
        | new t z k q =>
          obtain ⟨g, h1, h2⟩ := h
          refine ⟨g, h1, at_below h2 hb fun cs hc => ?_⟩
          have e := dSet_ne (l := listed) (Ne.symm (hk j t z k q hSj))
          exact ⟨fun h => hc.1 (e.symm.trans h), fun h => hc.2 (e.symm.trans h)⟩
        | put j => exact trivial
  · have hia : i ≠ a := fun h => by subst h; rw [hS] at hna; cases hna
    have hib : i ≠ b := fun h => by subst h; rw [hS] at hnb; cases hnb
    rw [getD_setNe hia, getD_setNe hib]
    exact hI.apart a b hab ((dSet_ne hia).symm.trans ha) ((dSet_ne hib).symm.trans hb') hna hnb
  · by_cases hik : i = k
    · subst hik; exact absurd hkj (hpp j)
    · have h := hI.putAfter k j hkj ((dSet_ne hik).symm.trans hkl)
      by_cases hij : i = j
      · subst hij; exact dSet_self (by omega)
      · exact (dSet_ne hij).trans h
theorem inv_new {S : List Sp} {W0 : World} {n : Nat} {listed : Array Bool} {vs : List Value} {w : World} {i : Nat} {t : TypeId} {z : Array Value} {k : Nat} {q : Array Value → Prop} (hI : Inv S W0 n listed vs w) (hin : i < n) (hln : listed.size = n) (hvn : vs.length = n) (hun : listed.getD i false = false)
    (hS : S[i]? = some (.new t z k q)) (hk : ∀ (j : Nat) t z k q, S[j]? = some (Sp.new t z k q) → k ≠ i) (hput : n ≤ k ∨ S[k]? = some (.put i)) : Inv S W0 n (listed.setIfInBounds i true) (vs.set i (.pointer (some ⟨w.heap.size, 0, none⟩))) (w.alloc (.cells z t)) := by
  have hb : Below w.heap.size w (w.alloc (.cells z t)) := (Below.refl w.heap.size w).alloc (Nat.le_refl _) _
  have hold : ∀ j, j < n → listed.getD j false = true → (match S[j]? with | some s => s.isNew | none => false) = true → ∃ g, vs.getD j undef = .pointer (some ⟨g, 0, none⟩) ∧ g < w.heap.size := fun j hj hjl hn => by
    have h := hI.have_ j hj hjl
    unfold Have at h
    cases hSj : S[j]? with
    | none => rw [hSj] at hn; cases hn
    | some s =>
      rw [hSj] at h hn
      cases s with
      | val p => cases hn
      | put j => cases hn
      | new t z k q => obtain ⟨g, h1, h2⟩ := h; exact ⟨g, h1, h2.2.1⟩
  have hlt : ∀ j, (match S[j]? with | some s => s.isNew | none => false) = true → listed.getD j false = true → j < n := fun j _ hl => by
    rcases Nat.lt_or_ge j n with h | h
    · exact h
    · rw [dOut (by omega)] at hl; cases hl
  refine ⟨hI.below.trans (hb.mono hI.below.size), fun j hj hjl => ?_, fun a b hab ha hb' hna hnb => ?_, fun k' j hkj hkl => ?_⟩
  · by_cases hji : i = j
    · subst hji
      unfold Have
      rw [hS]
      refine ⟨w.heap.size, getD_setSelf (by omega), hI.below.size, by simp, z, by simpa using heap_alloc_new w _, ?_⟩
      have hkf : (listed.setIfInBounds i true).getD k false = false := by
        rw [dSet_ne (Ne.symm (hk i t z k q hS))]
        rcases hput with h | h
        · exact dOut (by omega)
        · cases hc : listed.getD k false with
          | false => rfl
          | true => have := hI.putAfter k i h hc; rw [hun] at this; cases this
      exact ⟨fun h => (by have h' : (listed.setIfInBounds i true).getD k false = true := h; rw [hkf] at h'; cases h'), fun _ => rfl⟩
    · have h := hI.have_ j hj ((dSet_ne hji).symm.trans hjl)
      unfold Have at h ⊢
      rw [getD_setNe hji]
      cases hSj : S[j]? with
      | none => trivial
      | some s =>
        rw [hSj] at h
        cases s with
        | val p => exact h
        | new t z k q =>
          obtain ⟨g, h1, h2⟩ := h
          refine ⟨g, h1, at_below h2 hb fun cs hc => ?_⟩
          have e := dSet_ne (l := listed) (Ne.symm (hk j t z k q hSj))
          exact ⟨fun h => hc.1 (e.symm.trans h), fun h => hc.2 (e.symm.trans h)⟩
        | put j => exact trivial
  · by_cases hia : i = a
    · subst hia
      rw [getD_setSelf (by omega), getD_setNe hab]
      have hbl := (dSet_ne hab).symm.trans hb'
      obtain ⟨g, h1, h2⟩ := hold b (hlt b hnb hbl) hbl hnb
      rw [h1]
      intro he
      injection he with he
      injection he with he
      injection he with he _
      omega
    · by_cases hib : i = b
      · subst hib
        rw [getD_setSelf (by omega), getD_setNe hia]
        have hal := (dSet_ne hia).symm.trans ha
        obtain ⟨g, h1, h2⟩ := hold a (hlt a hna hal) hal hna
        rw [h1]
        intro he
        injection he with he
        injection he with he
        injection he with he _
        omega
      · rw [getD_setNe hia, getD_setNe hib]
        exact hI.apart a b hab ((dSet_ne hia).symm.trans ha) ((dSet_ne hib).symm.trans hb') hna hnb
  · have hik : i ≠ k' := fun h => by subst h; rw [hS] at hkj; cases hkj
    have h := hI.putAfter k' j hkj ((dSet_ne hik).symm.trans hkl)
    by_cases hij : i = j
    · subst hij; exact dSet_self (by omega)
    · exact (dSet_ne hij).trans h
theorem inv_put {S : List Sp} {W0 : World} {n : Nat} {listed : Array Bool} {vs : List Value} {w w' : World} {i j g : Nat} {t : TypeId} {z : Array Value} {q : Array Value → Prop} (hI : Inv S W0 n listed vs w) (hin : i < n) (hln : listed.size = n) (hvn : vs.length = n)
    (hS : S[i]? = some (.put j)) (hSj : S[j]? = some (.new t z i q)) (hk : ∀ (j' : Nat) t z k q, S[j']? = some (Sp.new t z k q) → k = i → j' = j) (hdj : listed.getD j false = true) (hg : vs.getD j undef = .pointer (some ⟨g, 0, none⟩)) (hg0 : W0.heap.size ≤ g) (hf : Filled w w' g t q) : Inv S W0 n (listed.setIfInBounds i true) vs w' := by
  refine ⟨⟨hf.os.trans hI.below.os, hf.tape.trans hI.below.tape, hf.output.trans hI.below.output, by rw [hf.size]; exact hI.below.size, fun b hb => (hf.other b (by omega)).trans (hI.below.block b hb)⟩, fun m hm hml => ?_, fun a b hab ha hb' hna hnb => ?_, fun k' m hkm hkl => ?_⟩
  · by_cases hmi : i = m
    · subst hmi; unfold Have; rw [hS]; trivial
    · have hmd := (dSet_ne hmi).symm.trans hml
      have h := hI.have_ m hm hmd
      unfold Have at h ⊢
      cases hSm : S[m]? with
      | none => trivial
      | some s =>
        rw [hSm] at h
        cases s with
        | val p => exact h
        | put _ => exact trivial
        | new t' z' k' q' =>
          obtain ⟨g', h1, h2, h3, cs, h4, h5⟩ := h
          refine ⟨g', h1, h2, by rw [hf.size]; exact h3, ?_⟩
          by_cases hmj : m = j
          · subst hmj
            rw [hSj] at hSm
            cases hSm
            rw [hg] at h1
            cases h1
            obtain ⟨cs', h6, h7⟩ := hf.here
            exact ⟨cs', h6, fun _ => h7, fun h => (by have h' : (listed.setIfInBounds i true).getD i false = false := h; rw [dSet_self (by omega)] at h'; cases h')⟩
          · have hne : g' ≠ g := by
              rintro rfl
              exact hI.apart m j hmj hmd hdj (by rw [hSm]; rfl) (by rw [hSj]; rfl) (h1.trans hg.symm)
            refine ⟨cs, (hf.other g' hne).trans h4, ?_⟩
            have hki : i ≠ k' := fun h => hmj (hk m t' z' k' q' hSm h.symm)
            have e := dSet_ne (l := listed) hki
            exact ⟨fun h => h5.1 (e.symm.trans h), fun h => h5.2 (e.symm.trans h)⟩
  · have hia : i ≠ a := fun h => by subst h; rw [hS] at hna; cases hna
    have hib : i ≠ b := fun h => by subst h; rw [hS] at hnb; cases hnb
    exact hI.apart a b hab ((dSet_ne hia).symm.trans ha) ((dSet_ne hib).symm.trans hb') hna hnb
  · by_cases hik : i = k'
    · subst hik
      rw [hS] at hkm
      cases hkm
      by_cases hij : i = j
      · subst hij; exact dSet_self (by omega)
      · exact (dSet_ne hij).trans hdj
    · have h := hI.putAfter k' m hkm ((dSet_ne hik).symm.trans hkl)
      by_cases him : i = m
      · subst him; exact dSet_self (by omega)
      · exact (dSet_ne him).trans h
theorem lean_of {S : List Sp} {W0 : World} {n : Nat} {listed : Array Bool} {vs : List Value} {w : World} (hI : Inv S W0 n listed vs w) (hln : listed.size = n)
    (hput : ∀ k j : Nat, S[k]? = some (Sp.put j) → ∃ t z q, S[j]? = some (Sp.new t z k q)) (j : Nat) (hj : listed.getD j false = true) : Lean1 S W0 vs w j := by
  have hlt : ∀ j, listed.getD j false = true → j < n := fun j hl => by
    rcases Nat.lt_or_ge j n with h | h
    · exact h
    · rw [dOut (by omega)] at hl; cases hl
  have h := hI.have_ j (hlt j hj) hj
  unfold Lean1
  unfold Have at h
  cases hSj : S[j]? with
  | none => trivial
  | some s =>
    rw [hSj] at h
    cases s with
    | val p => exact h
    | new t z k q =>
      obtain ⟨g, h1, h2, h3, cs, h4, h5⟩ := h
      refine ⟨g, h1, h2, h3, cs, h4, ?_⟩
      cases hd : listed.getD k false with
      | true => exact .inr (h5.1 hd)
      | false => exact .inl (h5.2 hd)
    | put m =>
      obtain ⟨t, z, q, hSm⟩ := hput j m hSj
      simp only
      rw [hSm]
      have hmd := hI.putAfter j m hSj hj
      have h' := hI.have_ m (hlt m hmd) hmd
      unfold Have at h'
      rw [hSm] at h'
      obtain ⟨g, h1, h2, h3, cs, h4, h5⟩ := h'
      exact ⟨g, h1, h2, h3, cs, h4, h5.1 hj⟩
theorem region_sp {id : Nat} {l : List Oper} {a0 : Act} {w0 : World} (hm : P.follows .mixedOrders = true) (ds : List (Option Tmp)) (vs0 : List Value) (S : List Sp)
    (hds : okSp l.toArray ds S = true) (hvs0 : vs0.length = ds.length) (ha0 : fillO a0 ds vs0 = a0) (h : AllOk P l.toArray Q a0 w0.drew ds S l S) (he : EndsOk Q a0 w0.drew ds S) : (Code.region id l.toArray true).wp P Q a0 w0 := by
  have hat := allOk_at h
  unfold okSp at hds
  simp only [Bool.and_eq_true, beq_iff_eq, decide_eq_true_eq] at hds
  obtain ⟨⟨⟨⟨hsz, hsl⟩, hall⟩, hnd⟩, hcon⟩ := hds
  have hput : ∀ k j : Nat, S[k]? = some (Sp.put j) → k < ds.length ∧ ds[k]? = some none ∧ (∃ t z q, S[j]? = some (Sp.new t z k q)) ∧ (∀ o, l[k]? = some o → ∃ e ∈ o.after, Region.binds .any e = true ∧ e.on = j) := fun k j hk => by
    have hkl : k < ds.length := by
      have := (List.getElem?_eq_some_iff.1 hk).1
      omega
    have h1 := List.all_eq_true.1 hcon k (List.mem_range.2 hkl)
    rw [hk] at h1
    simp only [Bool.and_eq_true, beq_iff_eq] at h1
    refine ⟨hkl, h1.1.1, ?_, fun o ho => ?_⟩
    · have h2 := h1.1.2
      cases hj : S[j]? with
      | none => rw [hj] at h2; cases h2
      | some s =>
        rw [hj] at h2
        cases s with
        | val p => cases h2
        | put m => cases h2
        | new t z k' q =>
          obtain rfl : k' = k := by simpa using h2
          exact ⟨t, z, q, rfl⟩
    · have h2 := h1.2
      rw [show l.toArray[k]? = some o by simpa using ho] at h2
      obtain ⟨e, hem, hh⟩ := Array.any_eq_true'.1 h2
      simp only [Bool.and_eq_true, beq_iff_eq] at hh
      exact ⟨e, hem, hh.1, hh.2⟩
  have hnew : ∀ (j : Nat) t z k q, S[j]? = some (Sp.new t z k q) → ds.length ≤ k ∨ S[k]? = some (Sp.put j) := fun j t z k q hj => by
    have hjl : j < ds.length := by
      have := (List.getElem?_eq_some_iff.1 hj).1
      omega
    have h1 := List.all_eq_true.1 hcon j (List.mem_range.2 hjl)
    rw [hj] at h1
    simp only [Bool.or_eq_true, decide_eq_true_eq] at h1
    rcases h1 with h1 | h1
    · exact .inl h1
    · cases hk : S[k]? with
      | none => rw [hk] at h1; cases h1
      | some s =>
        rw [hk] at h1
        cases s with
        | val p => cases h1
        | new _ _ _ _ => cases h1
        | put m =>
          obtain rfl : m = j := by simpa using h1
          exact .inr rfl
  refine wp_region_any hm ?_
  have hTF : ∀ (listed : Array Bool) (j : Nat), listed.getD j true = true → j < listed.size → listed.getD j false = true := fun listed j h h' => by
    simpa [Array.getD, h'] using h
  refine wpAny_inv (I := fun listed a w => listed.size = l.toArray.size ∧ ∃ vs, vs.length = ds.length ∧ a = fillO a0 ds vs ∧ Inv S w0.drew ds.length listed vs w) ?_ ?_ _ _ _ _ (by simp) ?_ ?_
  · intro listed a w hI i hi
    obtain ⟨hln, vs, hl, rfl, hI⟩ := hI
    obtain ⟨hun, oi, hoi, haft⟩ := mem_ready.1 hi
    have hio : i < l.toArray.size := (Array.getElem?_eq_some_iff.1 hoi).1
    have hid : i < ds.length := by omega
    have hoi' : l[i]? = some oi := by simpa using hoi
    have hunf : listed.getD i false = false := by
      cases hc : listed.getD i false with
      | false => rfl
      | true =>
        have : listed.getD i true = true := by
          have hi' : i < listed.size := by omega
          simpa [Array.getD, hi'] using hc
        rw [hun] at this; cases this
    have h1 := List.all_eq_true.1 hall i (List.mem_range.2 hid)
    rw [hoi] at h1
    simp only [Bool.and_eq_true, beq_iff_eq] at h1
    obtain ⟨hdst, hon⟩ := h1
    have hdi : ds[i]? = some oi.dst := hdst.symm
    have hS : ∃ s, S[i]? = some s := ⟨S[i], List.getElem?_eq_getElem (by omega)⟩
    obtain ⟨s, hSi⟩ := hS
    have hdone : ∀ e ∈ oi.after, Region.binds .any e = true → listed.getD e.on false = true := fun e hem hbd => haft e hem hbd
    have hlean : LeanAll S w0.drew vs w (deps oi) := leanAll_of fun j hj => by
      obtain ⟨e, he1, rfl⟩ := List.mem_map.1 hj
      obtain ⟨he1, he2⟩ := List.mem_filter.1 he1
      exact lean_of hI (by omega) (fun k j hk => (hput k j hk).2.2.1) _ (hdone e (by simpa using he1) he2)
    have hok := hat i oi s hoi' hSi vs hl w hI.below hlean
    have hkne : ∀ s', S[i]? = some s' → (∀ m, s' ≠ Sp.put m) → ∀ (j : Nat) t z k q, S[j]? = some (Sp.new t z k q) → k ≠ i := fun s' hs' hnp j t z k q hj he => by
      subst he
      rcases hnew j t z k q hj with h | h
      · omega
      · rw [hs'] at h
        exact hnp j (Option.some.inj h)
    unfold wpOp
    rw [hoi]
    simp only
    have hs : Still (if Region.wanted oi (yielded l.toArray (fillO a0 ds vs).tmps) = true then oi.wp P (fillO a0 ds vs) w (fun a' w' => (listed.setIfInBounds i true).size = l.toArray.size ∧ ∃ vs, vs.length = ds.length ∧ a' = fillO a0 ds vs ∧ Inv S w0.drew ds.length (listed.setIfInBounds i true) vs w') Q
        else (listed.setIfInBounds i true).size = l.toArray.size ∧ ∃ vs', vs'.length = ds.length ∧ (fillO a0 ds vs).put oi.dst undef = fillO a0 ds vs' ∧ Inv S w0.drew ds.length (listed.setIfInBounds i true) vs' w) := by
      cases s with
      | val p =>
        refine hok (fun a' w' => (listed.setIfInBounds i true).size = l.toArray.size ∧ ∃ vs, vs.length = ds.length ∧ a' = fillO a0 ds vs ∧ Inv S w0.drew ds.length (listed.setIfInBounds i true) vs w') (fun v w' hb hp => ⟨by simpa using hln, vs.set i v, by simpa using hl, fillO_set hnd hl hdi, ?_⟩)
        exact inv_val hI hid (by omega) hl hb (by rw [hSi]; rfl) (hkne _ hSi (fun m h => by cases h)) (fun j h => by rw [hSi] at h; cases h) (fun p' h => by rw [hSi] at h; cases h; exact hp)
      | new t z k q =>
        refine hok (fun a' w' => (listed.setIfInBounds i true).size = l.toArray.size ∧ ∃ vs, vs.length = ds.length ∧ a' = fillO a0 ds vs ∧ Inv S w0.drew ds.length (listed.setIfInBounds i true) vs w') ⟨by simpa using hln, vs.set i _, by simpa using hl, fillO_set hnd hl hdi, ?_⟩
        exact inv_new hI hid (by omega) hl hunf hSi (hkne _ hSi (fun m h => by cases h)) (hnew i t z k q hSi)
      | put j =>
        obtain ⟨hkl, hdk, ⟨t, z, q, hSj⟩, hed⟩ := hput i j hSi
        obtain ⟨e, hem, hbd, hej⟩ := hed oi hoi'
        have hdj := hdone e hem hbd
        rw [hej] at hdj
        have hjd : j < ds.length := by
          rcases Nat.lt_or_ge j ds.length with h | h
          · exact h
          · rw [dOut (by omega)] at hdj; cases hdj
        have hhave := hI.have_ j hjd hdj
        unfold Have at hhave
        rw [hSj] at hhave
        obtain ⟨g, hg, hg0, hg1, cs, hcs, hz⟩ := hhave
        obtain rfl := hz.2 hunf
        simp only at hok
        rw [hSj] at hok
        simp only at hok
        refine hok g hg hcs (fun a' w' => (listed.setIfInBounds i true).size = l.toArray.size ∧ ∃ vs, vs.length = ds.length ∧ a' = fillO a0 ds vs ∧ Inv S w0.drew ds.length (listed.setIfInBounds i true) vs w') (fun w' hf => ⟨by simpa using hln, vs, hl, rfl, ?_⟩)
        refine inv_put hI hid (by omega) hl hSi hSj (fun j' t' z' k' q' hj' hk' => ?_) hdj hg hg0 hf
        rcases hnew j' t' z' k' q' hj' with h | h
        · omega
        · rw [hk', hSi] at h
          cases h
          rfl
    have hs := hs.out
    by_cases hwt : Region.wanted oi (yielded l.toArray (fillO a0 ds vs).tmps) = true
    · rw [if_pos hwt] at hs ⊢
      exact .inl hs
    · rw [if_neg hwt] at hs ⊢
      exact hs
  · intro listed a w hI hr
    obtain ⟨hln, vs, hl, rfl, hI⟩ := hI
    have hdone : ∀ m, m < ds.length → listed.getD m false = true := by
      intro m hm2
      refine Classical.byContradiction fun hn => ?_
      have hn' : listed.getD m false = false := by simpa using hn
      have hleast : ∀ m, m < ds.length → listed.getD m false = false → ∃ i, i < ds.length ∧ listed.getD i false = false ∧ ∀ j, j < i → listed.getD j false = true := by
        intro m
        induction m using Nat.strongRecOn with
        | _ m ih =>
          intro hm hmf
          by_cases hex : ∃ j, j < m ∧ listed.getD j false = false
          · obtain ⟨j, hj, hjf⟩ := hex
            exact ih j hj (by omega) hjf
          · refine ⟨m, hm, hmf, fun j hj => ?_⟩
            cases hb : listed.getD j false with
            | true => rfl
            | false => exact absurd ⟨j, hj, hb⟩ hex
      obtain ⟨i, hid, hif, hil⟩ := hleast _ hm2 hn'
      have hio : i < l.toArray.size := by omega
      have hil' : i < listed.size := by omega
      have hif' : listed.getD i true = false := by simpa [Array.getD, hil'] using hif
      have hmem : i ∈ Region.ready .any l.toArray listed := by
        refine mem_ready.2 ⟨hif', l.toArray[i], Array.getElem?_eq_getElem hio, fun e he hbd => hil e.on ?_⟩
        have h1 := List.all_eq_true.1 hall i (List.mem_range.2 hid)
        rw [Array.getElem?_eq_getElem hio] at h1
        simp only [Bool.and_eq_true] at h1
        have := Array.all_eq_true_iff_forall_mem.1 h1.2 e he
        rw [hbd] at this
        simpa using this
      rw [hr] at hmem
      cases hmem
    refine he vs hl w hI.below (leanAll_of fun j hj => lean_of hI (by omega) (fun k j hk => (hput k j hk).2.2.1) _ (hdone j (by have := (mem_seqO hj).2; omega))) fun i j hij hi hj => ?_
    have hlt : ∀ i, (match S[i]? with | some s => s.isNew | none => false) = true → i < ds.length := fun i hi => by
      rcases Nat.lt_or_ge i ds.length with h | h
      · exact h
      · rw [List.getElem?_eq_none (by omega)] at hi; cases hi
    exact hI.apart i j hij (hdone i (hlt i hi)) (hdone j (hlt j hj)) hi hj
  · unfold left
    exact Nat.le_trans List.countP_le_length (by simp)
  · have hf : ∀ j, (Array.replicate l.toArray.size false).getD j false = false := fun j => by
      rcases Nat.lt_or_ge j l.toArray.size with h | h
      · have h' : j < (Array.replicate l.toArray.size false).size := by simpa using h
        simp only [Array.getD, h', dif_pos]
        exact Array.getElem_replicate ..
      · exact dOut (by simpa using h)
    refine ⟨by simp, vs0, hvs0, ha0.symm, Below.refl _ _, fun j hj hjl => ?_, fun i j _ hi _ _ _ => ?_, fun k j _ hk => ?_⟩
    · rw [hf j] at hjl; cases hjl
    · rw [hf i] at hi; cases hi
    · rw [hf k] at hk; cases hk
end
/-! ### Blocks -/
/-- The variable at block g. -/
structure Blk (w : World) (g : Nat) (t : TypeId) (cs : Array Value) : Prop where out : w.heap[g]? = some (.cells cs t (0, 0))
theorem Blk.lt {w : World} {g : Nat} {t : TypeId} {cs : Array Value} (h : Blk w g t cs) : g < w.heap.size := (Array.getElem?_eq_some_iff.1 h.out).1
theorem Blk.below {w w1 : World} {g : Nat} {t : TypeId} {cs : Array Value} (h : Blk w g t cs) (hb : Below w.heap.size w w1) : Blk w1 g t cs := ⟨(hb.block g h.lt).trans h.out⟩
theorem Blk.drewN {w : World} {g : Nat} {t : TypeId} {cs : Array Value} (h : Blk w g t cs) (n : Nat) : Blk (w.drewN n) g t cs := ⟨h.out⟩
theorem Blk.drew {w : World} {g : Nat} {t : TypeId} {cs : Array Value} (h : Blk w g t cs) : Blk w.drew g t cs := ⟨h.out⟩
theorem Blk.cell {w : World} {g : Nat} {t : TypeId} {cs : Array Value} (h : Blk w g t cs) (i : Nat) : w.cell? ⟨g, i, none⟩ = cs[i]? := by simp [World.cell?, h.out]
theorem Blk.free {w : World} {g : Nat} {t : TypeId} {cs : Array Value} (h : Blk w g t cs) (i : Nat) : w.frozen? ⟨g, i, none⟩ = false := by simp [World.frozen?, h.out]
theorem Blk.one {w : World} {g : Nat} {t : TypeId} {a : Value} (h : Blk w g t #[a]) : w.cell? ⟨g, 0, none⟩ = some a := h.cell 0
theorem Blk.two {w : World} {g : Nat} {t : TypeId} {a b : Value} (h : Blk w g t #[a, b]) : w.cell? ⟨g, 0, none⟩ = some a ∧ w.cell? ⟨g, 1, none⟩ = some b := ⟨h.cell 0, h.cell 1⟩
theorem Blk.three {w : World} {g : Nat} {t : TypeId} {a b c : Value} (h : Blk w g t #[a, b, c]) : w.cell? ⟨g, 0, none⟩ = some a ∧ w.cell? ⟨g, 1, none⟩ = some b ∧ w.cell? ⟨g, 2, none⟩ = some c := ⟨h.cell 0, h.cell 1, h.cell 2⟩
theorem Blk.four {w : World} {g : Nat} {t : TypeId} {a b c d : Value} (h : Blk w g t #[a, b, c, d]) : w.cell? ⟨g, 0, none⟩ = some a ∧ w.cell? ⟨g, 1, none⟩ = some b ∧ w.cell? ⟨g, 2, none⟩ = some c ∧ w.cell? ⟨g, 3, none⟩ = some d := ⟨h.cell 0, h.cell 1, h.cell 2, h.cell 3⟩
theorem Blk.six {w : World} {g : Nat} {t : TypeId} {a b c d e f : Value} (h : Blk w g t #[a, b, c, d, e, f]) : w.cell? ⟨g, 0, none⟩ = some a ∧ w.cell? ⟨g, 1, none⟩ = some b ∧ w.cell? ⟨g, 2, none⟩ = some c ∧ w.cell? ⟨g, 3, none⟩ = some d ∧ w.cell? ⟨g, 4, none⟩ = some e ∧ w.cell? ⟨g, 5, none⟩ = some f :=
  ⟨h.cell 0, h.cell 1, h.cell 2, h.cell 3, h.cell 4, h.cell 5⟩
theorem Blk.new (w : World) (t : TypeId) (cs : Array Value) : Blk (w.alloc (.cells cs t)) w.heap.size t cs := ⟨heap_alloc_new w _⟩
theorem Blk.newAt {w : World} {g : Nat} (t : TypeId) (cs : Array Value) (h : g = w.heap.size) : Blk (w.alloc (.cells cs t)) g t cs := by subst h; exact Blk.new w t cs
theorem Blk.alloc {w : World} {g : Nat} {t : TypeId} {cs : Array Value} (h : Blk w g t cs) (o : Obj) : Blk (w.alloc o) g t cs := h.below ((Below.refl w.heap.size w).alloc (Nat.le_refl _) o)
theorem Blk.far {w : World} {g b i : Nat} {t : TypeId} {cs : Array Value} (h : Blk w g t cs) (v : Value) (hne : g ≠ b) : Blk (w.setCell ⟨b, i, none⟩ v) g t cs := ⟨(Below.heap_setCell w ⟨b, i, none⟩ v g hne).trans h.out⟩
theorem Blk.set {w : World} {g : Nat} {t : TypeId} {cs : Array Value} (h : Blk w g t cs) (i : Nat) (v : Value) : Blk (w.setCell ⟨g, i, none⟩ v) g t (cs.setIfInBounds i v) := ⟨by simp [World.setCell, Array.getElem?_modify, h.out]⟩
theorem setCell_size (w : World) (p : Addr) (v : Value) : (w.setCell p v).heap.size = w.heap.size := by simp [World.setCell]
/-- Several cells of one block set, one after another. -/
def setAll (w : World) (g : Nat) : Nat → List Value → World
  | _, [] => w
  | i, v :: r => setAll (w.setCell ⟨g, i, none⟩ v) g (i + 1) r
theorem setAll_same (g : Nat) : ∀ (l : List Value) (i : Nat) (w : World), (setAll w g i l).os = w.os ∧ (setAll w g i l).tape = w.tape ∧ (setAll w g i l).output = w.output ∧ (setAll w g i l).heap.size = w.heap.size ∧ ∀ b, b ≠ g → (setAll w g i l).heap[b]? = w.heap[b]? := by
  intro l
  induction l with
  | nil => intro i w; exact ⟨rfl, rfl, rfl, rfl, fun _ _ => rfl⟩
  | cons v r ih =>
    intro i w
    obtain ⟨h1, h2, h3, h4, h5⟩ := ih (i + 1) (w.setCell ⟨g, i, none⟩ v)
    exact ⟨h1, h2, h3, h4.trans (setCell_size _ _ _), fun b hb => (h5 b hb).trans (Below.heap_setCell w ⟨g, i, none⟩ v b hb)⟩
theorem filled2 {w : World} {g : Nat} {t : TypeId} {a b x y : Value} {q : Array Value → Prop} (h : w.heap[g]? = some (.cells #[a, b] t (0, 0))) (hq : q #[x, y]) : Filled w ((w.setCell ⟨g, 0, none⟩ x).setCell ⟨g, 1, none⟩ y) g t q := by
  obtain ⟨h1, h2, h3, h4, h5⟩ := setAll_same g [x, y] 0 w
  exact ⟨h1, h2, h3, h4, h5, #[x, y], (((Blk.mk h).set 0 x).set 1 y).out, hq⟩
theorem filled3 {w : World} {g : Nat} {t : TypeId} {a b c x y z : Value} {q : Array Value → Prop} (h : w.heap[g]? = some (.cells #[a, b, c] t (0, 0))) (hq : q #[x, y, z]) : Filled w (((w.setCell ⟨g, 0, none⟩ x).setCell ⟨g, 1, none⟩ y).setCell ⟨g, 2, none⟩ z) g t q := by
  obtain ⟨h1, h2, h3, h4, h5⟩ := setAll_same g [x, y, z] 0 w
  exact ⟨h1, h2, h3, h4, h5, #[x, y, z], ((((Blk.mk h).set 0 x).set 1 y).set 2 z).out, hq⟩
theorem Filled.blk {w w' : World} {g : Nat} {t : TypeId} {cs : Array Value} (h : Filled w w' g t (fun c => c = cs)) : Blk w' g t cs := by
  obtain ⟨c, h1, rfl⟩ := h.here
  exact ⟨h1⟩
/-- What was filled is new: what was there stands. -/
theorem Filled.below {w w' : World} {g B : Nat} {t : TypeId} {q : Array Value → Prop} (h : Filled w w' g t q) (hg : B ≤ g) : Below B w w' := ⟨h.os, h.tape, h.output, by rw [h.size]; exact Nat.le_refl _, fun k hk => h.other k (by omega)⟩
theorem filled1 {w : World} {g : Nat} {t : TypeId} {a x : Value} {q : Array Value → Prop} (h : w.heap[g]? = some (.cells #[a] t (0, 0))) (hq : q #[x]) : Filled w (w.setCell ⟨g, 0, none⟩ x) g t q := by
  obtain ⟨h1, h2, h3, h4, h5⟩ := setAll_same g [x] 0 w
  exact ⟨h1, h2, h3, h4, h5, #[x], ((Blk.mk h).set 0 x).out, hq⟩
theorem filled6 {w : World} {g : Nat} {t : TypeId} {a b c d e f x y z u v s : Value} {q : Array Value → Prop} (h : w.heap[g]? = some (.cells #[a, b, c, d, e, f] t (0, 0))) (hq : q #[x, y, z, u, v, s]) :
    Filled w ((((((w.setCell ⟨g, 0, none⟩ x).setCell ⟨g, 1, none⟩ y).setCell ⟨g, 2, none⟩ z).setCell ⟨g, 3, none⟩ u).setCell ⟨g, 4, none⟩ v).setCell ⟨g, 5, none⟩ s) g t q := by
  obtain ⟨h1, h2, h3, h4, h5⟩ := setAll_same g [x, y, z, u, v, s] 0 w
  exact ⟨h1, h2, h3, h4, h5, #[x, y, z, u, v, s], (((((((Blk.mk h).set 0 x).set 1 y).set 2 z).set 3 u).set 4 v).set 5 s).out, hq⟩
/-! ### Filling, step by step -/
theorem fs (a : Act) (d : Tmp) (ds : List (Option Tmp)) (v : Value) (vs : List Value) : fillO a (some d :: ds) (v :: vs) = fillO (a.put (some d) v) ds vs := rfl
theorem fo (a : Act) (ds : List (Option Tmp)) (v : Value) (vs : List Value) : fillO a (none :: ds) (v :: vs) = fillO a ds vs := rfl
theorem fz (a : Act) (vs : List Value) : fillO a [] vs = a := rfl
theorem s1 {α : Type} (l : List α) (i : Nat) (a : α) : l.toArray.setIfInBounds i a = (l.set i a).toArray := List.setIfInBounds_toArray l i a
theorem s2 {α : Type} (l : List α) (a b : α) : (b :: l).set 0 a = a :: l := rfl
theorem s3 {α : Type} (l : List α) (a b : α) (n : Nat) : (b :: l).set (n + 1) a = b :: l.set n a := rfl
/-! ### More lengths -/
theorem len27 {vs : List Value} (h : vs.length = 27) : ∃ v0 v1 v2 v3 v4 v5 v6 v7 v8 v9 v10 v11 v12 v13 v14 v15 v16 v17 v18 v19 v20 v21 v22 v23 v24 v25 v26, vs = [v0, v1, v2, v3, v4, v5, v6, v7, v8, v9, v10, v11, v12, v13, v14, v15, v16, v17, v18, v19, v20, v21, v22, v23, v24, v25, v26] := by
  match vs, h with
  | v :: r, h =>
    obtain ⟨v0, v1, v2, v3, v4, v5, v6, v7, v8, v9, v10, v11, v12, v13, v14, v15, v16, v17, v18, v19, v20, v21, v22, v23, v24, v25, rfl⟩ := len26 (vs := r) (by simpa using h)
    exact ⟨v, v0, v1, v2, v3, v4, v5, v6, v7, v8, v9, v10, v11, v12, v13, v14, v15, v16, v17, v18, v19, v20, v21, v22, v23, v24, v25, rfl⟩
theorem len28 {vs : List Value} (h : vs.length = 28) : ∃ v0 v1 v2 v3 v4 v5 v6 v7 v8 v9 v10 v11 v12 v13 v14 v15 v16 v17 v18 v19 v20 v21 v22 v23 v24 v25 v26 v27, vs = [v0, v1, v2, v3, v4, v5, v6, v7, v8, v9, v10, v11, v12, v13, v14, v15, v16, v17, v18, v19, v20, v21, v22, v23, v24, v25, v26, v27] := by
  match vs, h with
  | v :: r, h =>
    obtain ⟨v0, v1, v2, v3, v4, v5, v6, v7, v8, v9, v10, v11, v12, v13, v14, v15, v16, v17, v18, v19, v20, v21, v22, v23, v24, v25, v26, rfl⟩ := len27 (vs := r) (by simpa using h)
    exact ⟨v, v0, v1, v2, v3, v4, v5, v6, v7, v8, v9, v10, v11, v12, v13, v14, v15, v16, v17, v18, v19, v20, v21, v22, v23, v24, v25, v26, rfl⟩
theorem len29 {vs : List Value} (h : vs.length = 29) : ∃ v0 v1 v2 v3 v4 v5 v6 v7 v8 v9 v10 v11 v12 v13 v14 v15 v16 v17 v18 v19 v20 v21 v22 v23 v24 v25 v26 v27 v28, vs = [v0, v1, v2, v3, v4, v5, v6, v7, v8, v9, v10, v11, v12, v13, v14, v15, v16, v17, v18, v19, v20, v21, v22, v23, v24, v25, v26, v27, v28] := by
  match vs, h with
  | v :: r, h =>
    obtain ⟨v0, v1, v2, v3, v4, v5, v6, v7, v8, v9, v10, v11, v12, v13, v14, v15, v16, v17, v18, v19, v20, v21, v22, v23, v24, v25, v26, v27, rfl⟩ := len28 (vs := r) (by simpa using h)
    exact ⟨v, v0, v1, v2, v3, v4, v5, v6, v7, v8, v9, v10, v11, v12, v13, v14, v15, v16, v17, v18, v19, v20, v21, v22, v23, v24, v25, v26, v27, rfl⟩
theorem len30 {vs : List Value} (h : vs.length = 30) : ∃ v0 v1 v2 v3 v4 v5 v6 v7 v8 v9 v10 v11 v12 v13 v14 v15 v16 v17 v18 v19 v20 v21 v22 v23 v24 v25 v26 v27 v28 v29, vs = [v0, v1, v2, v3, v4, v5, v6, v7, v8, v9, v10, v11, v12, v13, v14, v15, v16, v17, v18, v19, v20, v21, v22, v23, v24, v25, v26, v27, v28, v29] := by
  match vs, h with
  | v :: r, h =>
    obtain ⟨v0, v1, v2, v3, v4, v5, v6, v7, v8, v9, v10, v11, v12, v13, v14, v15, v16, v17, v18, v19, v20, v21, v22, v23, v24, v25, v26, v27, v28, rfl⟩ := len29 (vs := r) (by simpa using h)
    exact ⟨v, v0, v1, v2, v3, v4, v5, v6, v7, v8, v9, v10, v11, v12, v13, v14, v15, v16, v17, v18, v19, v20, v21, v22, v23, v24, v25, v26, v27, v28, rfl⟩
theorem len31 {vs : List Value} (h : vs.length = 31) : ∃ v0 v1 v2 v3 v4 v5 v6 v7 v8 v9 v10 v11 v12 v13 v14 v15 v16 v17 v18 v19 v20 v21 v22 v23 v24 v25 v26 v27 v28 v29 v30, vs = [v0, v1, v2, v3, v4, v5, v6, v7, v8, v9, v10, v11, v12, v13, v14, v15, v16, v17, v18, v19, v20, v21, v22, v23, v24, v25, v26, v27, v28, v29, v30] := by
  match vs, h with
  | v :: r, h =>
    obtain ⟨v0, v1, v2, v3, v4, v5, v6, v7, v8, v9, v10, v11, v12, v13, v14, v15, v16, v17, v18, v19, v20, v21, v22, v23, v24, v25, v26, v27, v28, v29, rfl⟩ := len30 (vs := r) (by simpa using h)
    exact ⟨v, v0, v1, v2, v3, v4, v5, v6, v7, v8, v9, v10, v11, v12, v13, v14, v15, v16, v17, v18, v19, v20, v21, v22, v23, v24, v25, v26, v27, v28, v29, rfl⟩
theorem len32 {vs : List Value} (h : vs.length = 32) : ∃ v0 v1 v2 v3 v4 v5 v6 v7 v8 v9 v10 v11 v12 v13 v14 v15 v16 v17 v18 v19 v20 v21 v22 v23 v24 v25 v26 v27 v28 v29 v30 v31, vs = [v0, v1, v2, v3, v4, v5, v6, v7, v8, v9, v10, v11, v12, v13, v14, v15, v16, v17, v18, v19, v20, v21, v22, v23, v24, v25, v26, v27, v28, v29, v30, v31] := by
  match vs, h with
  | v :: r, h =>
    obtain ⟨v0, v1, v2, v3, v4, v5, v6, v7, v8, v9, v10, v11, v12, v13, v14, v15, v16, v17, v18, v19, v20, v21, v22, v23, v24, v25, v26, v27, v28, v29, v30, rfl⟩ := len31 (vs := r) (by simpa using h)
    exact ⟨v, v0, v1, v2, v3, v4, v5, v6, v7, v8, v9, v10, v11, v12, v13, v14, v15, v16, v17, v18, v19, v20, v21, v22, v23, v24, v25, v26, v27, v28, v29, v30, rfl⟩
end Go.Proofs.Ytbjpdelammffpaa.Rs
/- slices.IndexFunc and slices.ContainsFunc at whole numbers, and the function all: whatever function value is handed on, so long as it answers by a rule and leaves what lay there. -/
namespace Go.Proofs.Ytbjpdelammffpaa.Cf
open Go Go.RowKit Go.Lib Go.Proofs.YtbjpdelammffpaaW.PrintWords
set_option linter.unusedVariables false
set_option linter.unusedSimpArgs false

/-- A rule p that function g, bound to lb, answers by, in every later world. -/
def Answers {α : Type} (g : Nat) (lb : Array Value) (enc : α → Value) (p : α → Bool) (w : World) : Prop :=
  ∀ (W : World) (x : α), Below w.heap.size w W → Calls Try.prog g (#[enc x] ++ lb) W fun e w' => e = .returned (.bool (p x)) ∧ Below W.heap.size W w'

theorem any_not (l : List Int) (q : Int → Bool) : (!(l.any fun x => !(q x))) = l.all q := by
  induction l with
  | nil => rfl
  | cons a l ih =>
    simp only [List.any_cons, List.all_cons, Bool.not_or, Bool.not_not]
    rw [ih]
set_option maxHeartbeats 2000000 in
theorem indexFunc (p : Int → Bool) (g : Nat) (lb : Array Value) (eg : ∀ args w, (callFunc g args).run Try.prog w = .ok (.enter g args) w) (A : Option Addr) (c : Nat) (zs : List Int) (w : World)
    (hp : Answers g lb (Value.int .i64) p w) (hr : Kd.C (Kd.int .i64) w A zs.length zs) :
    Calls Try.prog 45 #[.slice A zs.length c, .func (.func g) #[] lb] w fun e w' => e = .returned (.int .i64 (Lib.idxBy (fun _ y => p y) zs (0 : Int))) ∧ Below w.heap.size w w' := by
  have hbig : zs.length ≤ 9223372036854775807 := hr.2.1
  have hrow : ∀ (W : World), Below w.heap.size w W → ∀ j : Nat, j < zs.length → ∃ ad, A = some ad ∧ W.cell? (ad.add j) = some (.int .i64 zs[j]!) := fun W hW j hj => by
    obtain ⟨ad, cs, e, hl, hk, hcell⟩ := Kd.C_get hr (0 : Int) (j : Int) (by omega) (by omega)
    obtain rfl : cs = [Value.int .i64 (zs.getD (j : Int).toNat 0)] := hk
    have h0 := hcell 0 _ rfl
    refine ⟨ad, e, ?_⟩
    have e2 : zs.getD (j : Int).toNat 0 = zs[j]! := by simp [List.getD_eq_getElem?_getD, hj]
    rw [e2] at h0
    have e3 : (j : Int).toNat * Kd.sz (Kd.int .i64) + 0 = j := by simp [Kd.int, Kd.scalar]
    rw [e3] at h0
    exact pw_cell_below hW h0
  have HROW := Aside0.mk hrow
  have HP := Aside0.mk hp
  clear hr hrow hp
  go_enter Try.func45, Try.ntmps45
  go_wp2
  go_loopg [5, 8] zs.length (fun gg _ s8 wr => ∃ kk : Nat, kk ≤ zs.length ∧ zs.length - kk ≤ gg ∧ s8 = .int .i64 kk ∧ Aside0 (Below w.heap.size w wr) ∧ Aside0 (∀ j, j < kk → p zs[j]! = false))
  case atStart => exact ⟨0, Nat.zero_le _, by omega, rfl, ⟨Below.refl _ w⟩, ⟨fun j hj => absurd hj (Nat.not_lt_zero _)⟩⟩
  case round =>
    obtain ⟨kk, hkk, hg, rfl, BW, AA⟩ := hrel
    by_cases hlt : kk < zs.length
    · have hltz : (kk : Int) < (zs.length : Int) := by omega
      obtain ⟨ad, rfl, l2⟩ := HROW.out wr BW.out kk (by omega)
      have hcall := HP.out wr zs[kk]! BW.out
      clear HROW HP
      generalize hy : zs[kk]! = y at l2 hcall
      have B := Aside0.mk hy
      clear hy
      cases hq : p y with
      | true =>
        rw [hq] at hcall
        go_wp2_with fail
        refine hcall.mono ?_
        rintro e w' ⟨rfl, hb'⟩
        go_wp2
        go_ret
        refine ⟨?_, BW.out.trans (hb'.mono BW.out.size)⟩
        have := Lib.idxBy_hit (fun _ y => p y) zs zs.length kk (0 : Int) hlt (Nat.le_refl _) (by show p zs[kk]! = true; rw [B.out]; exact hq) AA.out
        rw [List.take_length] at this
        rw [this]
        rfl
      | false =>
        rw [hq] at hcall
        go_wp2_with fail
        refine hcall.mono ?_
        rintro e w' ⟨rfl, hb'⟩
        go_wp2
        go_roundg (zs.length - (kk + 1))
        case measure => omega
        case rel =>
          refine ⟨kk + 1, by omega, by omega, by go_num, ⟨BW.out.trans (hb'.mono BW.out.size)⟩, ⟨fun j hj => ?_⟩⟩
          by_cases e : j = kk
          · subst e
            rw [B.out]; exact hq
          · exact AA.out j (by omega)
    · have hltz : ¬ (kk : Int) < (zs.length : Int) := by omega
      have hk : kk = zs.length := by omega
      clear HROW HP
      have AA2 := AA.out
      have hkz : (kk : Int) = (zs.length : Int) := by omega
      subst hk
      go_wp2
      go_ret
      refine ⟨?_, BW.out⟩
      have := Lib.idxBy_miss (fun _ y => p y) zs zs.length (0 : Int) AA2
      rw [List.take_length] at this
      rw [this]
      rfl

set_option maxHeartbeats 1000000 in
theorem containsFunc (p : Int → Bool) (g : Nat) (lb : Array Value) (eg : ∀ args w, (callFunc g args).run Try.prog w = .ok (.enter g args) w) (A : Option Addr) (c : Nat) (zs : List Int) (w : World)
    (hp : Answers g lb (Value.int .i64) p w) (hr : Kd.C (Kd.int .i64) w A zs.length zs) :
    Calls Try.prog 43 #[.slice A zs.length c, .func (.func g) #[] lb] w fun e w' => e = .returned (.bool (zs.any p)) ∧ Below w.heap.size w w' := by
  have e1 : zs.any p = decide (0 ≤ Lib.idxBy (fun _ y => p y) zs (0 : Int)) := (Lib.idxBy_nonneg_iff (fun _ y => p y) zs (0 : Int)).symm
  rw [e1]
  go_enter Try.func43, Try.ntmps43
  go_wp2_with (go_at_call 45; refine (indexFunc p g lb eg A c zs _ hp hr).mono ?_; rintro e w' ⟨rfl, hb⟩)
  go_ret
  exact ⟨rfl, hb⟩

theorem in_any (x a b : Int) (w : World) : Calls Try.prog 31 #[.int .i64 x, .int .i64 a, .int .i64 b] w fun e w' => e = .returned (.bool (decide (a ≤ x) && decide (x ≤ b))) ∧ w' = w := by
  by_cases h : a ≤ x
  · go_enter Try.func31, Try.ntmps31
    go_wp2
    all_goals (go_ret; exact ⟨by first | (simp_all; done) | (simp_all; omega), rfl⟩)
  · go_enter Try.func31, Try.ntmps31
    go_wp2
    all_goals (go_ret; exact ⟨by first | (simp_all; done) | (simp_all; omega), rfl⟩)
theorem all_clo (lo hi : Int) (B1 B2 : Nat) (w : World) (h1 : B1 < w.heap.size) (h2 : B2 < w.heap.size) (c1 : w.cell? ⟨B1, 0, none⟩ = some (.int .i64 lo)) (c2 : w.cell? ⟨B2, 0, none⟩ = some (.int .i64 hi)) :
    Answers 44 #[.pointer (some ⟨B1, 0, none⟩), .pointer (some ⟨B2, 0, none⟩)] (Value.int .i64) (fun x => !(decide (lo ≤ x) && decide (x ≤ hi))) w := fun W x hb => by
  have d1 : W.cell? ⟨B1, 0, none⟩ = some (.int .i64 lo) := (hb.cell (p := ⟨B1, 0, none⟩) h1).trans c1
  have d2 : W.cell? ⟨B2, 0, none⟩ = some (.int .i64 hi) := (hb.cell (p := ⟨B2, 0, none⟩) h2).trans c2
  clear c1 c2 hb
  show Calls Try.prog 44 #[.int .i64 x, .pointer (some ⟨B1, 0, none⟩), .pointer (some ⟨B2, 0, none⟩)] W _
  go_enter Try.func44, Try.ntmps44
  go_wp2_with (go_at_call 31; refine (in_any x lo hi _).mono ?_; rintro e w' ⟨rfl, rfl⟩)
  all_goals (go_ret; exact ⟨by simp, by first | exact Below.refl _ _ | exact below_drewN' (Below.refl _ _) _⟩)
set_option maxHeartbeats 1000000 in
theorem all_any (A : Option Addr) (c : Nat) (l : List Int) (lo hi : Int) (w : World) (hr : Kd.C (Kd.int .i64) w A l.length l) :
    Calls Try.prog 41 #[.slice A l.length c, .int .i64 lo, .int .i64 hi] w fun e w' => e = .returned (.bool (l.all fun x => decide (lo ≤ x) && decide (x ≤ hi))) ∧ Below w.heap.size w w' := by
  rw [← any_not l]
  have eg : ∀ args w, (callFunc 44 args).run Try.prog w = .ok (.enter 44 args) w := enters_of Try.func44 (by kernel_rfl) rfl
  have hb1 : Below w.heap.size w (w.alloc (.cells #[.int .i64 lo] 3)) := (Below.refl _ _).alloc (Nat.le_refl _) _
  have hb2 : Below w.heap.size w ((w.alloc (.cells #[.int .i64 lo] 3)).alloc (.cells #[.int .i64 hi] 3)) := hb1.alloc (by simp) _
  have hcon := containsFunc (fun x => !(decide (lo ≤ x) && decide (x ≤ hi))) 44 #[.pointer (some ⟨w.heap.size, 0, none⟩), .pointer (some ⟨w.heap.size + 1, 0, none⟩)] eg A c l _
    (all_clo lo hi w.heap.size (w.heap.size + 1) ((w.alloc (.cells #[.int .i64 lo] 3)).alloc (.cells #[.int .i64 hi] 3)) (by simp; omega) (by simp) (by go_simp) (by go_simp)) (Kd.C_below hr hb2)
  have H := Aside0.mk hb2
  clear hb1 hb2 hr eg
  generalize (l.any fun x => !(decide (lo ≤ x) && decide (x ≤ hi))) = r at hcon ⊢
  go_enter Try.func41, Try.ntmps41
  go_wp2_with (go_at_call 43; refine hcon.mono ?_; rintro e w' ⟨rfl, hb'⟩)
  go_ret
  exact ⟨rfl, H.out.trans (hb'.mono H.out.size)⟩
end Go.Proofs.Ytbjpdelammffpaa.Cf
/- cells of a hull; strips: the sum of a function over neighbouring strips of a hull at a water line, for whatever function of two numbers is handed on. -/
namespace Go.Proofs.Ytbjpdelammffpaa.Cf
open Go Go.RowKit Go.Lib Go.Proofs.YtbjpdelammffpaaW.PrintWords
set_option linter.unusedVariables false
set_option linter.unusedSimpArgs false

def cellAt (l : List (List Int)) (m k : Nat) : Int := (l.getD k []).getD m 0
def stripAcc (g : Int → Int → Int) (s : Int) (l : List (List Int)) (m : Nat) : Nat → Int
  | 0 => 0
  | k + 1 => wrap64 (stripAcc g s l m k + wrap64 (s * g (cellAt l m k) (cellAt l m (k + 1))))

theorem row_cells {e : Nat} {w : World} {A : Option Addr} {l : List (List Int)} (hr : Kd.C (Kd.slice e (Kd.int .i64)) w A l.length l) (m k : Nat) (hk : k < l.length) (hm : m < (l.getD k []).length) :
    ∃ ad A' c' ad', A = some ad ∧ w.cell? (ad.add k) = some (.slice A' (l.getD k []).length c') ∧ A' = some ad' ∧ w.cell? (ad'.add m) = some (.int .i64 (cellAt l m k)) := by
  obtain ⟨ad, cs, e1, hl, hK, hcell⟩ := Kd.C_get hr ([] : List Int) (k : Int) (by omega) (by omega)
  obtain ⟨A', c', rfl, hlc, hC⟩ := hK
  have h0 := hcell 0 _ rfl
  have e3 : (k : Int).toNat * Kd.sz (Kd.slice e (Kd.int .i64)) + 0 = k := by simp [Kd.slice]
  rw [e3] at h0
  have e4 : l.getD (k : Int).toNat [] = l.getD k [] := by rw [Int.toNat_natCast]
  rw [e4] at h0 hC
  obtain ⟨ad', cs', e2, hl', hK', hcell'⟩ := Kd.C_get hC (0 : Int) (m : Int) (by omega) (by omega)
  obtain rfl : cs' = [Value.int .i64 ((l.getD k []).getD (m : Int).toNat 0)] := hK'
  have h1 := hcell' 0 _ rfl
  have e5 : (m : Int).toNat * Kd.sz (Kd.int .i64) + 0 = m := by simp [Kd.int, Kd.scalar]
  rw [e5, Int.toNat_natCast] at h1
  exact ⟨ad, A', c', ad', e1, h0, e2, h1⟩

end Go.Proofs.Ytbjpdelammffpaa.Cf
-- printed for this claim out of the translation
namespace Go.Proofs.Ytbjpdelammffpaa.PH1
open Go.RowKit Go.Proofs.YtbjpdelammffpaaW.PrintWords Go.Proofs.YtbjpdelammffpaaW.PrintLast Go.Proofs.YtbjpdelammffpaaW.PrintMore
attribute [local go_sem] max2_int min2_int max_two min_two max_three min_three max_four min_four   -- for this text's walks alone
set_option linter.unusedVariables false
set_option linter.unusedSimpArgs false



def errW : Option Int → Value
  | none => .nilIface
  | some c => .iface 0 (.int .i64 c)
theorem errW_none : errW none = .nilIface := rfl
theorem errW_some (c : Int) : errW (some c) = .iface 0 (.int .i64 c) := rfl

theorem info3 : (Try.prog.info? 3).map (fun i => (i.zero, i.size, i.bytes)) = some (some (.int .i64 0), 1, 8) := by kernel_rfl
theorem info26 : (Try.prog.info? 26).map (fun i => (i.zero, i.size, i.bytes)) = some (some (.slice none 0 0), 1, 24) := by kernel_rfl
-- the values' own types
def rd_L1 (xs : List (List Int)) (i : Int) : (List Int) := xs.getD i.toNat ([] : List Int)
theorem at_L1 {w : World} {A : Option Addr} {n : Nat} {xs : List (List Int)} (h : Kd.C (Kd.slice 3 (Kd.int .i64)) w A n xs) (i : Int) (h0 : 0 ≤ i) (h1 : i < n) : ∃ ad A0 c0, A = some ad ∧ w.cell? (ad.add i.toNat) = some (.slice A0 (rd_L1 xs i).length c0) ∧ (rd_L1 xs i).length ≤ c0 ∧ (Kd.int .i64).C w A0 (rd_L1 xs i).length (rd_L1 xs i) := by
  obtain ⟨ad, c, e, _, hK, hc0⟩ := Kd.C_get h ([] : List Int) i h0 h1
  have hc : ∀ j u, c[j]? = some u → w.cell? (ad.add (i.toNat * 1 + j)) = some u := hc0
  obtain ⟨A0, c0, rfl, l0, g0⟩ := hK
  exact ⟨ad, A0, c0, e, by have hq := hc 0 _ rfl; rwa [Nat.mul_one, Nat.add_zero] at hq, l0, g0⟩

end Go.Proofs.Ytbjpdelammffpaa.PH1
-- printed for this claim out of the translation
namespace Go.Proofs.Ytbjpdelammffpaa.PH1
open Go.RowKit Go.Proofs.YtbjpdelammffpaaW.PrintWords Go.Proofs.YtbjpdelammffpaaW.PrintLast Go.Proofs.YtbjpdelammffpaaW.PrintMore
attribute [local go_sem] max2_int min2_int max_two min_two max_three min_three max_four min_four   -- for this text's walks alone
set_option linter.unusedVariables false
set_option linter.unusedSimpArgs false

/-! ### laws_szIntS: function 33 -/
def laws_szIntS.f (l0 : List Int) (a1 : Int) : Option (Int) := if (wrap64 (a1 - (l0.length : Int))) < 0 then (some (-1)) else (some (wrap64 (a1 - (l0.length : Int))))
set_option maxHeartbeats 8000000 in
set_option maxRecDepth 100000 in
theorem laws_szIntS.calls (A0 : Option Addr) (c0 : Nat) (l0 : List Int) (a1 : Int) (r : Int) (w : World) (hr0 : Kd.C (Kd.int .i64) w A0 l0.length l0) (hc0 : l0.length ≤ c0) (h : laws_szIntS.f l0 a1 = some r) :
    Calls Try.prog 33 #[.slice A0 l0.length c0, .int .i64 a1] w fun e w' => e = .returned (.int .i64 r) ∧ Drawn0 w w' := by
  have HR0 := Aside0.mk hr0
  have HC0 := Aside0.mk hc0
  clear hr0 hc0
  have H : (if (wrap64 (a1 - (l0.length : Int))) < 0 then (some (-1)) else (some (wrap64 (a1 - (l0.length : Int))))) = some r := h
  clear h
  by_cases c3 : (wrap64 (a1 - (l0.length : Int))) < 0
  · rw [if_pos c3] at H
    have c3b0 : decide ((wrap64 (a1 - (l0.length : Int))) < 0) = true := decide_eq_true c3
    clear c3
    obtain rfl := Option.some.inj H
    go_enter Try.func33, Try.ntmps33
    go_wp2
    go_ret
    exact ⟨by first | rfl | (simp; done) | (simp [*]; done), by repeat (first | exact Drawn0.refl _ | apply Drawn0.step)⟩
  · rw [if_neg c3] at H
    have c3b0 : decide ((wrap64 (a1 - (l0.length : Int))) < 0) = false := decide_eq_false c3
    clear c3
    obtain rfl := Option.some.inj H
    go_enter Try.func33, Try.ntmps33
    go_wp2
    go_ret
    exact ⟨by first | rfl | (simp; done) | (simp [*]; done), by repeat (first | exact Drawn0.refl _ | apply Drawn0.step)⟩

/-! ### laws_szIntSS: function 20 -/
def laws_szIntSS.l0 : Nat → List (List Int) → Int → Int → Option (Int)
  | 0, _, _, _ => none
  | k + 1, x0, x1, x5 => if x5 < (x0.length : Int) then (if 0 ≤ x5 then ((laws_szIntS.f (rd_L1 x0 x5) x1).bind fun t102 => (if t102 < 0 then (some (-1)) else (laws_szIntSS.l0 k x0 t102 (wrap64 (x5 + 1))))) else (none)) else (some x1)
def laws_szIntSS.f (k : Nat) (l0 : List (List Int)) (a1 : Int) : Option (Int) := if (wrap64 (a1 - (l0.length : Int))) < 0 then (some (-1)) else (laws_szIntSS.l0 k l0 (wrap64 (a1 - (l0.length : Int))) 0)
theorem laws_szIntSS.mono_l : ∀ k, (∀ y0 y1 y2, LeO (laws_szIntSS.l0 k y0 y1 y2) (laws_szIntSS.l0 (k + 1) y0 y1 y2))
  | 0 => fun _ _ _ r h => by simp [laws_szIntSS.l0] at h
  | k + 1 => by
    have ih0 := laws_szIntSS.mono_l k
    · intro y0 y1 y2
      unfold laws_szIntSS.l0
      repeat' first
      | (with_reducible exact ih0 _ _ _)
      | (with_reducible exact LeO.refl _)
      | (with_reducible exact LeO.none _)
      | (with_reducible refine LeO.ite ?_ ?_)
      | (with_reducible refine LeO.bind ?_ (fun _ => ?_))
      | exact ih0 _ _ _
      | exact LeO.none _
      | refine LeO.ite ?_ ?_
      | refine LeO.bind ?_ (fun _ => ?_)
theorem laws_szIntSS.mono : ∀ a0 a1 k, LeO (laws_szIntSS.f k a0 a1) (laws_szIntSS.f (k + 1) a0 a1) := by
  intro a0 a1 k
  have ih0 := laws_szIntSS.mono_l k
  unfold laws_szIntSS.f
  repeat' first
      | (with_reducible exact ih0 _ _ _)
      | (with_reducible exact LeO.refl _)
      | (with_reducible exact LeO.none _)
      | (with_reducible refine LeO.ite ?_ ?_)
      | (with_reducible refine LeO.bind ?_ (fun _ => ?_))
      | exact ih0 _ _ _
      | exact LeO.none _
      | refine LeO.ite ?_ ?_
      | refine LeO.bind ?_ (fun _ => ?_)
set_option maxHeartbeats 8000000 in
set_option maxRecDepth 100000 in
theorem laws_szIntSS.calls (k : Nat) (A0 : Option Addr) (c0 : Nat) (l0 : List (List Int)) (a1 : Int) (r : Int) (w : World) (hr0 : Kd.C (Kd.slice 3 (Kd.int .i64)) w A0 l0.length l0) (hc0 : l0.length ≤ c0) (h : laws_szIntSS.f k l0 a1 = some r) :
    Calls Try.prog 20 #[.slice A0 l0.length c0, .int .i64 a1] w fun e w' => e = .returned (.int .i64 r) ∧ Drawn0 w w' := by
  have HR0 := Aside0.mk hr0
  have HC0 := Aside0.mk hc0
  clear hr0 hc0
  have H : (if (wrap64 (a1 - (l0.length : Int))) < 0 then (some (-1)) else (laws_szIntSS.l0 k l0 (wrap64 (a1 - (l0.length : Int))) 0)) = some r := h
  clear h
  by_cases c3 : (wrap64 (a1 - (l0.length : Int))) < 0
  · rw [if_pos c3] at H
    have c3b0 : decide ((wrap64 (a1 - (l0.length : Int))) < 0) = true := decide_eq_true c3
    clear c3
    obtain rfl := Option.some.inj H
    go_enter Try.func20, Try.ntmps20
    go_wp2
    go_ret
    exact ⟨by first | rfl | (simp; done) | (simp [*]; done), by repeat (first | exact Drawn0.refl _ | apply Drawn0.step)⟩
  · rw [if_neg c3] at H
    have c3b0 : decide ((wrap64 (a1 - (l0.length : Int))) < 0) = false := decide_eq_false c3
    clear c3
    have H' := Aside0.mk H
    clear H
    go_enter Try.func20, Try.ntmps20
    go_wp2
    go_loopg [1, 5] k (fun kq v1 v5 w' => ∃ (x1_1 : Int) (x5_1 : Int), v1 = .int .i64 x1_1 ∧ v5 = .int .i64 x5_1 ∧ Aside0 (laws_szIntSS.l0 kq l0 x1_1 x5_1 = some r) ∧ Aside0 (kq ≤ k) ∧ Drawn0 w w')
    case atStart => exact ⟨(wrap64 (a1 - (l0.length : Int))), (0), (by first | rfl | (simp; done) | (simp [*]; done)), (by first | rfl | (simp; done) | (simp [*]; done)), H', ⟨Nat.le_refl _⟩, by repeat (first | exact Drawn0.refl _ | apply Drawn0.step)⟩
    case round =>
      clear H'
      try clear c2
      try clear p2
      try clear c3
      try clear c3b0
      obtain ⟨x1_1, x5_1, rfl, rfl, HA, HK1, ⟨m1, rfl⟩⟩ := hrel
      cases gk with
      | zero => exact absurd HA.out (by simp [laws_szIntSS.l0])
      | succ k1 =>
        have H := HA.out
        clear HA
        simp only [laws_szIntSS.l0] at H
        by_cases c4 : x5_1 < (l0.length : Int)
        · rw [if_pos c4] at H
          have c4b0 : decide (x5_1 < (l0.length : Int)) = true := decide_eq_true c4
          clear c4
          by_cases c5 : 0 ≤ x5_1
          · rw [if_pos c5] at H
            have c5b0 : decide (0 ≤ x5_1) = true := decide_eq_true c5
            clear c5
            replace H := Option.bind_eq_some_iff.mp H
            obtain ⟨t102, A60, H⟩ := H
            replace H : (if t102 < 0 then (some (-1)) else (laws_szIntSS.l0 k1 l0 t102 (wrap64 (x5_1 + 1)))) = some r := H
            have A6 := Aside0.mk A60
            clear A60
            by_cases c7 : t102 < 0
            · rw [if_pos c7] at H
              have c7b0 : decide (t102 < 0) = true := decide_eq_true c7
              clear c7
              obtain rfl := Option.some.inj H
              have p101 : 0 ≤ (x5_1 : Int) := of_decide_eq_true (by first | (with_reducible assumption) | assumption)
              have q101 : x5_1 < (l0.length : Int) := of_decide_eq_true (by first | (with_reducible assumption) | assumption)
              obtain ⟨ad101, A101_0, c101_0, e101, hx101_0, hl101_0, hi101_0⟩ := at_L1 HR0.out x5_1 p101 q101
              cases e101
              have HR101_0 := Aside0.mk hi101_0
              have HC101_0 := Aside0.mk hl101_0
              clear hi101_0 hl101_0
              replace p101 := eq_true p101
              replace q101 := eq_true q101
              go_wp2_with (first | ((with_reducible refine gate_callee (f := 33) rfl ?_); refine goesL_ (some 23) rfl rfl Try.func33 (by kernel_rfl) rfl #[.slice A101_0 (rd_L1 l0 x5_1).length c101_0, .int .i64 x1_1] rfl (by (try simp only [List.map_toArray, List.map_cons, List.map_nil]); first | done | rfl | (simp only [List.length_drop, List.length_take]; rfl)) ?_; (with_reducible refine (laws_szIntS.calls _ _ (rd_L1 l0 x5_1) x1_1 t102 _ ?side1 ?side2 A6.out).mono ?_); (case side1 => repeat (first | exact HR101_0.out | (with_reducible refine Kd.C_alloc ?_ _) | (with_reducible refine Kd.C_drewN ?_ _) | (with_reducible refine Kd.C_drew ?_))); (case side2 => exact HC101_0.out); rintro e w' ⟨rfl, ⟨nd, rfl⟩⟩; refine ⟨_, rfl, ?_⟩))
              go_ret
              exact ⟨by first | rfl | (simp; done) | (simp [*]; done), by repeat (first | exact Drawn0.refl _ | apply Drawn0.step)⟩
            · rw [if_neg c7] at H
              have c7b0 : decide (t102 < 0) = false := decide_eq_false c7
              clear c7
              have H' := Aside0.mk H
              clear H
              have p101 : 0 ≤ (x5_1 : Int) := of_decide_eq_true (by first | (with_reducible assumption) | assumption)
              have q101 : x5_1 < (l0.length : Int) := of_decide_eq_true (by first | (with_reducible assumption) | assumption)
              obtain ⟨ad101, A101_0, c101_0, e101, hx101_0, hl101_0, hi101_0⟩ := at_L1 HR0.out x5_1 p101 q101
              cases e101
              have HR101_0 := Aside0.mk hi101_0
              have HC101_0 := Aside0.mk hl101_0
              clear hi101_0 hl101_0
              replace p101 := eq_true p101
              replace q101 := eq_true q101
              go_wp2_with (first | ((with_reducible refine gate_callee (f := 33) rfl ?_); refine goesL_ (some 23) rfl rfl Try.func33 (by kernel_rfl) rfl #[.slice A101_0 (rd_L1 l0 x5_1).length c101_0, .int .i64 x1_1] rfl (by (try simp only [List.map_toArray, List.map_cons, List.map_nil]); first | done | rfl | (simp only [List.length_drop, List.length_take]; rfl)) ?_; (with_reducible refine (laws_szIntS.calls _ _ (rd_L1 l0 x5_1) x1_1 t102 _ ?side1 ?side2 A6.out).mono ?_); (case side1 => repeat (first | exact HR101_0.out | (with_reducible refine Kd.C_alloc ?_ _) | (with_reducible refine Kd.C_drewN ?_ _) | (with_reducible refine Kd.C_drew ?_))); (case side2 => exact HC101_0.out); rintro e w' ⟨rfl, ⟨nd, rfl⟩⟩; refine ⟨_, rfl, ?_⟩))
              go_roundg k1
              case measure => have := HK1.out; omega
              case rel => exact ⟨(t102), (wrap64 (x5_1 + 1)), (by first | rfl | (simp; done) | (simp [*]; done)), (by first | rfl | (simp; done) | (simp [*]; done)), H', ⟨by have := HK1.out; omega⟩, by repeat (first | exact Drawn0.refl _ | apply Drawn0.step)⟩
          · rw [if_neg c5] at H
            exact absurd H (by simp)
        · rw [if_neg c4] at H
          have c4b0 : decide (x5_1 < (l0.length : Int)) = false := decide_eq_false c4
          clear c4
          obtain rfl := Option.some.inj H
          go_wp2
          go_ret
          exact ⟨by first | rfl | (simp; done) | (simp [*]; done), by repeat (first | exact Drawn0.refl _ | apply Drawn0.step)⟩

/-! ### laws_szHull: function 5 -/
def laws_szHull.f (k : Nat) (a0_0 : Int) (a0_1 : Int) (l0_2 : List (List Int)) (a1 : Int) : Option (Int) := (laws_szIntSS.f k l0_2 a1).bind fun t104 => (if t104 < 0 then (some (-1)) else (some t104))
theorem laws_szHull.mono : ∀ a0 a1 a2 a3 k, LeO (laws_szHull.f k a0 a1 a2 a3) (laws_szHull.f (k + 1) a0 a1 a2 a3) := by
  intro a0 a1 a2 a3 k
  unfold laws_szHull.f
  repeat' first
      | (with_reducible exact laws_szIntSS.mono _ _ _)
      | (with_reducible exact LeO.refl _)
      | (with_reducible exact LeO.none _)
      | (with_reducible refine LeO.ite ?_ ?_)
      | (with_reducible refine LeO.bind ?_ (fun _ => ?_))
      | exact laws_szIntSS.mono _ _ _
      | exact LeO.none _
      | refine LeO.ite ?_ ?_
      | refine LeO.bind ?_ (fun _ => ?_)
set_option maxHeartbeats 8000000 in
set_option maxRecDepth 100000 in
theorem laws_szHull.calls (k : Nat) (a0_0 : Int) (a0_1 : Int) (A0_2 : Option Addr) (c0_2 : Nat) (l0_2 : List (List Int)) (a1 : Int) (r : Int) (w : World) (hr0_2 : Kd.C (Kd.slice 3 (Kd.int .i64)) w A0_2 l0_2.length l0_2) (hc0_2 : l0_2.length ≤ c0_2) (h : laws_szHull.f k a0_0 a0_1 l0_2 a1 = some r) :
    Calls Try.prog 5 #[.agg #[.int .i64 a0_0, .int .i64 a0_1, .slice A0_2 l0_2.length c0_2], .int .i64 a1] w fun e w' => e = .returned (.int .i64 r) ∧ Below w.heap.size w w' := by
  have hu24 := Try.underlying24
  have HR0_2 := Aside0.mk hr0_2
  have HC0_2 := Aside0.mk hc0_2
  clear hr0_2 hc0_2
  have HB := Aside0.mk (Below.refl w.heap.size w)
  have H : ((laws_szIntSS.f k l0_2 a1).bind fun t104 => (if t104 < 0 then (some (-1)) else (some t104))) = some r := h
  clear h
  replace H := Option.bind_eq_some_iff.mp H
  obtain ⟨t104, A30, H⟩ := H
  replace H : (if t104 < 0 then (some (-1)) else (some t104)) = some r := H
  have A3 := Aside0.mk A30
  clear A30
  by_cases c4 : t104 < 0
  · rw [if_pos c4] at H
    have c4b0 : decide (t104 < 0) = true := decide_eq_true c4
    clear c4
    obtain rfl := Option.some.inj H
    go_enter Try.func5, Try.ntmps5
    go_wp2_with (first | ((with_reducible refine gate_dst (N := 2) rfl ?_); refine box_event ?hg (N := 2) ?hd (cs := #[.int .i64 a0_0, .int .i64 a0_1, .slice A0_2 l0_2.length c0_2]) (t := 24) ?hr ?_; (case hd => rfl); (case hg => rfl); (case hr => first | (go_simp; done) | (go_simp; rfl)); intro gb103 hg w5 hbox hb; have n0_ := Aside0.mk (below_step (by repeat (first | (with_reducible first | exact HB.out | apply below_alloc | apply pw_below_drewN | apply below_drew1) | exact HB.out)) hb); have n1_ := Aside0.mk (hbox); have n2_ := Aside0.mk ((by rw [hg]; exact (below_size (by repeat (first | (with_reducible first | exact HB.out | apply below_alloc | apply pw_below_drewN | apply below_drew1) | exact HB.out))) : w.heap.size ≤ gb103)); have n3_ := Aside0.mk ((by rw [hg]; exact (below_size (by repeat (first | (with_reducible first | exact HB.out | apply below_alloc | apply pw_below_drewN | apply below_drew1) | exact HB.out))) : w.heap.size ≤ gb103)); clear HB; have HB := n0_; have BK103 := n1_; have GW103 := n2_; have GE103 := n3_; clear n0_ n1_ n2_ n3_; clear hb hbox hg; have hcz6_0 : w5.cell? ⟨gb103, 0, none⟩ = some (.int .i64 a0_0) := (blk_cell BK103.out 0).trans rfl; have hcz6_1 : w5.cell? ⟨gb103, 1, none⟩ = some (.int .i64 a0_1) := (blk_cell BK103.out 1).trans rfl; have hcz6_2 : w5.cell? ⟨gb103, 2, none⟩ = some (.slice A0_2 l0_2.length c0_2) := (blk_cell BK103.out 2).trans rfl; have hfz6_0 := blk_frozen BK103.out 0; have hfz6_1 := blk_frozen BK103.out 1; have hfz6_2 := blk_frozen BK103.out 2) | ((with_reducible refine gate_callee (f := 20) rfl ?_); refine goesL_ (some 8) rfl rfl Try.func20 (by kernel_rfl) rfl #[.slice A0_2 l0_2.length c0_2, .int .i64 a1] rfl (by (try simp only [List.map_toArray, List.map_cons, List.map_nil]); first | done | rfl | (simp only [List.length_drop, List.length_take]; rfl)) ?_; (with_reducible refine (laws_szIntSS.calls k _ _ l0_2 a1 t104 _ ?side1 ?side2 A3.out).mono ?_); (case side1 => repeat (first | exact (Kd.C_below HR0_2.out HB.out) | (with_reducible refine Kd.C_alloc ?_ _) | (with_reducible refine Kd.C_drewN ?_ _) | (with_reducible refine Kd.C_drew ?_))); (case side2 => exact HC0_2.out); rintro e w' ⟨rfl, ⟨nd, rfl⟩⟩; refine ⟨_, rfl, ?_⟩))
    go_ret
    exact ⟨by first | rfl | (simp [errW_none, errW_some] <;> rfl) | (simp [*, errW_none, errW_some] <;> rfl), by repeat (first | (with_reducible first | exact HB.out | apply below_alloc | apply pw_below_drewN | apply below_drew1 | refine below_set ?_ GE103.out) | exact HB.out)⟩
  · rw [if_neg c4] at H
    have c4b0 : decide (t104 < 0) = false := decide_eq_false c4
    clear c4
    obtain rfl := Option.some.inj H
    go_enter Try.func5, Try.ntmps5
    go_wp2_with (first | ((with_reducible refine gate_dst (N := 2) rfl ?_); refine box_event ?hg (N := 2) ?hd (cs := #[.int .i64 a0_0, .int .i64 a0_1, .slice A0_2 l0_2.length c0_2]) (t := 24) ?hr ?_; (case hd => rfl); (case hg => rfl); (case hr => first | (go_simp; done) | (go_simp; rfl)); intro gb103 hg w7 hbox hb; have n0_ := Aside0.mk (below_step (by repeat (first | (with_reducible first | exact HB.out | apply below_alloc | apply pw_below_drewN | apply below_drew1) | exact HB.out)) hb); have n1_ := Aside0.mk (hbox); have n2_ := Aside0.mk ((by rw [hg]; exact (below_size (by repeat (first | (with_reducible first | exact HB.out | apply below_alloc | apply pw_below_drewN | apply below_drew1) | exact HB.out))) : w.heap.size ≤ gb103)); have n3_ := Aside0.mk ((by rw [hg]; exact (below_size (by repeat (first | (with_reducible first | exact HB.out | apply below_alloc | apply pw_below_drewN | apply below_drew1) | exact HB.out))) : w.heap.size ≤ gb103)); clear HB; have HB := n0_; have BK103 := n1_; have GW103 := n2_; have GE103 := n3_; clear n0_ n1_ n2_ n3_; clear hb hbox hg; have hcz8_0 : w7.cell? ⟨gb103, 0, none⟩ = some (.int .i64 a0_0) := (blk_cell BK103.out 0).trans rfl; have hcz8_1 : w7.cell? ⟨gb103, 1, none⟩ = some (.int .i64 a0_1) := (blk_cell BK103.out 1).trans rfl; have hcz8_2 : w7.cell? ⟨gb103, 2, none⟩ = some (.slice A0_2 l0_2.length c0_2) := (blk_cell BK103.out 2).trans rfl; have hfz8_0 := blk_frozen BK103.out 0; have hfz8_1 := blk_frozen BK103.out 1; have hfz8_2 := blk_frozen BK103.out 2) | ((with_reducible refine gate_callee (f := 20) rfl ?_); refine goesL_ (some 8) rfl rfl Try.func20 (by kernel_rfl) rfl #[.slice A0_2 l0_2.length c0_2, .int .i64 a1] rfl (by (try simp only [List.map_toArray, List.map_cons, List.map_nil]); first | done | rfl | (simp only [List.length_drop, List.length_take]; rfl)) ?_; (with_reducible refine (laws_szIntSS.calls k _ _ l0_2 a1 t104 _ ?side1 ?side2 A3.out).mono ?_); (case side1 => repeat (first | exact (Kd.C_below HR0_2.out HB.out) | (with_reducible refine Kd.C_alloc ?_ _) | (with_reducible refine Kd.C_drewN ?_ _) | (with_reducible refine Kd.C_drew ?_))); (case side2 => exact HC0_2.out); rintro e w' ⟨rfl, ⟨nd, rfl⟩⟩; refine ⟨_, rfl, ?_⟩))
    go_ret
    exact ⟨by first | rfl | (simp [errW_none, errW_some] <;> rfl) | (simp [*, errW_none, errW_some] <;> rfl), by repeat (first | (with_reducible first | exact HB.out | apply below_alloc | apply pw_below_drewN | apply below_drew1 | refine below_set ?_ GE103.out) | exact HB.out)⟩

/-! ### spec_l1In: function 28 -/
def spec_l1In.f (a0 : Int) (a1 : Int) (a2 : Int) : Option (Bool) := if a0 ≥ a1 then (some (decide (a0 ≤ a2))) else (some false)
set_option maxHeartbeats 8000000 in
set_option maxRecDepth 100000 in
theorem spec_l1In.calls (a0 : Int) (a1 : Int) (a2 : Int) (r : Bool) (w : World) (h : spec_l1In.f a0 a1 a2 = some r) :
    Calls Try.prog 28 #[.int .i64 a0, .int .i64 a1, .int .i64 a2] w fun e w' => e = .returned (.bool r) ∧ Drawn0 w w' := by
  have H : (if a0 ≥ a1 then (some (decide (a0 ≤ a2))) else (some false)) = some r := h
  clear h
  by_cases c4 : a0 ≥ a1
  · rw [if_pos c4] at H
    have c4b0 : decide (a1 ≤ a0) = true := decide_eq_true c4
    clear c4
    obtain rfl := Option.some.inj H
    go_enter Try.func28, Try.ntmps28
    go_wp2
    go_ret
    exact ⟨by first | rfl | (simp; done) | (simp [*]; done), by repeat (first | exact Drawn0.refl _ | apply Drawn0.step)⟩
  · rw [if_neg c4] at H
    have c4b0 : decide (a1 ≤ a0) = false := decide_eq_false c4
    clear c4
    obtain rfl := Option.some.inj H
    go_enter Try.func28, Try.ntmps28
    go_wp2
    go_ret
    exact ⟨by first | rfl | (simp; done) | (simp [*]; done), by repeat (first | exact Drawn0.refl _ | apply Drawn0.step)⟩

end Go.Proofs.Ytbjpdelammffpaa.PH1
-- printed for this claim out of the translation
namespace Go.Proofs.Ytbjpdelammffpaa.PH1
open Go.RowKit Go.Proofs.YtbjpdelammffpaaW.PrintWords Go.Proofs.YtbjpdelammffpaaW.PrintLast Go.Proofs.YtbjpdelammffpaaW.PrintMore
attribute [local go_sem] max2_int min2_int max_two min_two max_three min_three max_four min_four   -- for this text's walks alone
set_option linter.unusedVariables false
set_option linter.unusedSimpArgs false

/-! ### spec_HullOk: function 34 -/
mutual
def spec_HullOk.j0 : Nat → Bool → Int → Int → List (List Int) → Option (Bool)
  | 0, _, _, _, _ => none
  | k + 1, x21, x106000, x106001, x106002 => if x21 = true then (some false) else (spec_HullOk.l0 k 0 x106000 x106001 x106002)
def spec_HullOk.l0 : Nat → Int → Int → Int → List (List Int) → Option (Bool)
  | 0, _, _, _, _ => none
  | k + 1, x3, x106000, x106001, x106002 => if x3 < (x106002.length : Int) then (if 0 ≤ x3 then (if 0 < (x106002.length : Int) then (if ((rd_L1 x106002 x3).length : Int) = ((rd_L1 x106002 0).length : Int) then ((spec_l1In.f ((rd_L1 x106002 x3).length : Int) 2 10).bind fun t112 => (spec_HullOk.j2 k x3 (!t112) x106000 x106001 x106002)) else (spec_HullOk.j2 k x3 true x106000 x106001 x106002)) else (none)) else (none)) else (some true)
def spec_HullOk.j2 : Nat → Int → Bool → Int → Int → List (List Int) → Option (Bool)
  | 0, _, _, _, _, _ => none
  | k + 1, x3, x50, x106000, x106001, x106002 => if x50 = true then (some false) else (spec_HullOk.l1 k x3 0 x106000 x106001 x106002)
def spec_HullOk.l1 : Nat → Int → Int → Int → Int → List (List Int) → Option (Bool)
  | 0, _, _, _, _, _ => none
  | k + 1, x3, x4, x106000, x106001, x106002 => if 0 ≤ x3 then (if x3 < (x106002.length : Int) then (if x4 < ((rd_L1 x106002 x3).length : Int) then (if 0 ≤ x4 then ((spec_l1In.f (rd (rd_L1 x106002 x3) x4) 0 50).bind fun t116 => (if t116 = true then (spec_HullOk.l1 k x3 (wrap64 (x4 + 1)) x106000 x106001 x106002) else (some false))) else (none)) else (spec_HullOk.l0 k (wrap64 (x3 + 1)) x106000 x106001 x106002)) else (none)) else (none)
end
def spec_HullOk.f (k : Nat) (a0_0 : Int) (a0_1 : Int) (l0_2 : List (List Int)) : Option (Bool) := (spec_l1In.f a0_0 1 100).bind fun t106 => (if t106 = true then ((spec_l1In.f a0_1 1 20).bind fun t107 => (if t107 = true then ((spec_l1In.f (l0_2.length : Int) 2 12).bind fun t108 => (spec_HullOk.j0 k (!t108) a0_0 a0_1 l0_2)) else (spec_HullOk.j0 k true a0_0 a0_1 l0_2))) else (spec_HullOk.j0 k true a0_0 a0_1 l0_2))
theorem spec_HullOk.mono_l : ∀ k, (∀ y0 y1 y2 y3, LeO (spec_HullOk.j0 k y0 y1 y2 y3) (spec_HullOk.j0 (k + 1) y0 y1 y2 y3)) ∧ (∀ y0 y1 y2 y3, LeO (spec_HullOk.l0 k y0 y1 y2 y3) (spec_HullOk.l0 (k + 1) y0 y1 y2 y3)) ∧ (∀ y0 y1 y2 y3 y4, LeO (spec_HullOk.j2 k y0 y1 y2 y3 y4) (spec_HullOk.j2 (k + 1) y0 y1 y2 y3 y4)) ∧ (∀ y0 y1 y2 y3 y4, LeO (spec_HullOk.l1 k y0 y1 y2 y3 y4) (spec_HullOk.l1 (k + 1) y0 y1 y2 y3 y4))
  | 0 => ⟨fun _ _ _ _ r h => by simp [spec_HullOk.j0] at h, fun _ _ _ _ r h => by simp [spec_HullOk.l0] at h, fun _ _ _ _ _ r h => by simp [spec_HullOk.j2] at h, fun _ _ _ _ _ r h => by simp [spec_HullOk.l1] at h⟩
  | k + 1 => by
    obtain ⟨ih0, ih1, ih2, ih3⟩ := spec_HullOk.mono_l k
    refine ⟨?_, ?_, ?_, ?_⟩
    · intro y0 y1 y2 y3
      unfold spec_HullOk.j0
      repeat' first
      | (with_reducible exact ih0 _ _ _ _)
      | (with_reducible exact ih1 _ _ _ _)
      | (with_reducible exact ih2 _ _ _ _ _)
      | (with_reducible exact ih3 _ _ _ _ _)
      | (with_reducible exact LeO.refl _)
      | (with_reducible exact LeO.none _)
      | (with_reducible refine LeO.ite ?_ ?_)
      | (with_reducible refine LeO.bind ?_ (fun _ => ?_))
      | exact ih0 _ _ _ _
      | exact ih1 _ _ _ _
      | exact ih2 _ _ _ _ _
      | exact ih3 _ _ _ _ _
      | exact LeO.none _
      | refine LeO.ite ?_ ?_
      | refine LeO.bind ?_ (fun _ => ?_)
    · intro y0 y1 y2 y3
      unfold spec_HullOk.l0
      repeat' first
      | (with_reducible exact ih0 _ _ _ _)
      | (with_reducible exact ih1 _ _ _ _)
      | (with_reducible exact ih2 _ _ _ _ _)
      | (with_reducible exact ih3 _ _ _ _ _)
      | (with_reducible exact LeO.refl _)
      | (with_reducible exact LeO.none _)
      | (with_reducible refine LeO.ite ?_ ?_)
      | (with_reducible refine LeO.bind ?_ (fun _ => ?_))
      | exact ih0 _ _ _ _
      | exact ih1 _ _ _ _
      | exact ih2 _ _ _ _ _
      | exact ih3 _ _ _ _ _
      | exact LeO.none _
      | refine LeO.ite ?_ ?_
      | refine LeO.bind ?_ (fun _ => ?_)
    · intro y0 y1 y2 y3 y4
      unfold spec_HullOk.j2
      repeat' first
      | (with_reducible exact ih0 _ _ _ _)
      | (with_reducible exact ih1 _ _ _ _)
      | (with_reducible exact ih2 _ _ _ _ _)
      | (with_reducible exact ih3 _ _ _ _ _)
      | (with_reducible exact LeO.refl _)
      | (with_reducible exact LeO.none _)
      | (with_reducible refine LeO.ite ?_ ?_)
      | (with_reducible refine LeO.bind ?_ (fun _ => ?_))
      | exact ih0 _ _ _ _
      | exact ih1 _ _ _ _
      | exact ih2 _ _ _ _ _
      | exact ih3 _ _ _ _ _
      | exact LeO.none _
      | refine LeO.ite ?_ ?_
      | refine LeO.bind ?_ (fun _ => ?_)
    · intro y0 y1 y2 y3 y4
      unfold spec_HullOk.l1
      repeat' first
      | (with_reducible exact ih0 _ _ _ _)
      | (with_reducible exact ih1 _ _ _ _)
      | (with_reducible exact ih2 _ _ _ _ _)
      | (with_reducible exact ih3 _ _ _ _ _)
      | (with_reducible exact LeO.refl _)
      | (with_reducible exact LeO.none _)
      | (with_reducible refine LeO.ite ?_ ?_)
      | (with_reducible refine LeO.bind ?_ (fun _ => ?_))
      | exact ih0 _ _ _ _
      | exact ih1 _ _ _ _
      | exact ih2 _ _ _ _ _
      | exact ih3 _ _ _ _ _
      | exact LeO.none _
      | refine LeO.ite ?_ ?_
      | refine LeO.bind ?_ (fun _ => ?_)
theorem spec_HullOk.mono : ∀ a0 a1 a2 k, LeO (spec_HullOk.f k a0 a1 a2) (spec_HullOk.f (k + 1) a0 a1 a2) := by
  intro a0 a1 a2 k
  obtain ⟨ih0, ih1, ih2, ih3⟩ := spec_HullOk.mono_l k
  unfold spec_HullOk.f
  repeat' first
      | (with_reducible exact ih0 _ _ _ _)
      | (with_reducible exact ih1 _ _ _ _)
      | (with_reducible exact ih2 _ _ _ _ _)
      | (with_reducible exact ih3 _ _ _ _ _)
      | (with_reducible exact LeO.refl _)
      | (with_reducible exact LeO.none _)
      | (with_reducible refine LeO.ite ?_ ?_)
      | (with_reducible refine LeO.bind ?_ (fun _ => ?_))
      | exact ih0 _ _ _ _
      | exact ih1 _ _ _ _
      | exact ih2 _ _ _ _ _
      | exact ih3 _ _ _ _ _
      | exact LeO.none _
      | refine LeO.ite ?_ ?_
      | refine LeO.bind ?_ (fun _ => ?_)
set_option maxHeartbeats 8000000 in
set_option maxRecDepth 100000 in
theorem spec_HullOk.calls (k : Nat) (a0_0 : Int) (a0_1 : Int) (A0_2 : Option Addr) (c0_2 : Nat) (l0_2 : List (List Int)) (r : Bool) (w : World) (hr0_2 : Kd.C (Kd.slice 3 (Kd.int .i64)) w A0_2 l0_2.length l0_2) (hc0_2 : l0_2.length ≤ c0_2) (h : spec_HullOk.f k a0_0 a0_1 l0_2 = some r) :
    Calls Try.prog 34 #[.agg #[.int .i64 a0_0, .int .i64 a0_1, .slice A0_2 l0_2.length c0_2]] w fun e w' => e = .returned (.bool r) ∧ Below w.heap.size w w' := by
  have hu28 := Try.underlying28
  have HR0_2 := Aside0.mk hr0_2
  have HC0_2 := Aside0.mk hc0_2
  clear hr0_2 hc0_2
  have HB := Aside0.mk (Below.refl w.heap.size w)
  have H : ((spec_l1In.f a0_0 1 100).bind fun t106 => (if t106 = true then ((spec_l1In.f a0_1 1 20).bind fun t107 => (if t107 = true then ((spec_l1In.f (l0_2.length : Int) 2 12).bind fun t108 => (spec_HullOk.j0 k (!t108) a0_0 a0_1 l0_2)) else (spec_HullOk.j0 k true a0_0 a0_1 l0_2))) else (spec_HullOk.j0 k true a0_0 a0_1 l0_2))) = some r := h
  clear h
  have HC2 := Aside0.mk H
  clear H
  go_enter Try.func34, Try.ntmps34
  go_upto_region 1 with (first | ((with_reducible refine gate_dst (N := 1) rfl ?_); (try (refine gate_guard (by rfl) ?_; dsimp only)); refine box_event ?hg (N := 1) ?hd (cs := #[.int .i64 a0_0, .int .i64 a0_1, .slice A0_2 l0_2.length c0_2]) (t := 28) ?hr ?_; (case hd => rfl); (case hg => rfl); (case hr => first | (go_simp; done) | (go_simp; rfl)); intro gb105 hg w3 hbox hb; have n0_ := Aside0.mk (below_step (by repeat (first | (with_reducible first | exact HB.out | apply below_alloc | apply pw_below_drewN | apply below_drew1) | exact HB.out)) hb); have n1_ := Aside0.mk (hbox); have n2_ := Aside0.mk ((by rw [hg]; exact (below_size (by repeat (first | (with_reducible first | exact HB.out | apply below_alloc | apply pw_below_drewN | apply below_drew1) | exact HB.out))) : w.heap.size ≤ gb105)); have n3_ := Aside0.mk ((by rw [hg]; exact (below_size (by repeat (first | (with_reducible first | exact HB.out | apply below_alloc | apply pw_below_drewN | apply below_drew1) | exact HB.out))) : w.heap.size ≤ gb105)); clear HB; have HB := n0_; have BK105 := n1_; have GW105 := n2_; have GE105 := n3_; clear n0_ n1_ n2_ n3_; clear hb hbox hg))
  repeat (go_quiet (first | ((with_reducible refine gate_dst (N := 1) rfl ?_); (try (refine gate_guard (by rfl) ?_; dsimp only)); refine box_event ?hg (N := 1) ?hd (cs := #[.int .i64 a0_0, .int .i64 a0_1, .slice A0_2 l0_2.length c0_2]) (t := 28) ?hr ?_; (case hd => rfl); (case hg => rfl); (case hr => first | (go_simp; done) | (go_simp; rfl)); intro gb105 hg w3 hbox hb; have n0_ := Aside0.mk (below_step (by repeat (first | (with_reducible first | exact HB.out | apply below_alloc | apply pw_below_drewN | apply below_drew1) | exact HB.out)) hb); have n1_ := Aside0.mk (hbox); have n2_ := Aside0.mk ((by rw [hg]; exact (below_size (by repeat (first | (with_reducible first | exact HB.out | apply below_alloc | apply pw_below_drewN | apply below_drew1) | exact HB.out))) : w.heap.size ≤ gb105)); have n3_ := Aside0.mk ((by rw [hg]; exact (below_size (by repeat (first | (with_reducible first | exact HB.out | apply below_alloc | apply pw_below_drewN | apply below_drew1) | exact HB.out))) : w.heap.size ≤ gb105)); clear HB; have HB := n0_; have BK105 := n1_; have GW105 := n2_; have GE105 := n3_; clear n0_ n1_ n2_ n3_; clear hb hbox hg)); go_upto_region 1 with (first | ((with_reducible refine gate_dst (N := 1) rfl ?_); (try (refine gate_guard (by rfl) ?_; dsimp only)); refine box_event ?hg (N := 1) ?hd (cs := #[.int .i64 a0_0, .int .i64 a0_1, .slice A0_2 l0_2.length c0_2]) (t := 28) ?hr ?_; (case hd => rfl); (case hg => rfl); (case hr => first | (go_simp; done) | (go_simp; rfl)); intro gb105 hg w3 hbox hb; have n0_ := Aside0.mk (below_step (by repeat (first | (with_reducible first | exact HB.out | apply below_alloc | apply pw_below_drewN | apply below_drew1) | exact HB.out)) hb); have n1_ := Aside0.mk (hbox); have n2_ := Aside0.mk ((by rw [hg]; exact (below_size (by repeat (first | (with_reducible first | exact HB.out | apply below_alloc | apply pw_below_drewN | apply below_drew1) | exact HB.out))) : w.heap.size ≤ gb105)); have n3_ := Aside0.mk ((by rw [hg]; exact (below_size (by repeat (first | (with_reducible first | exact HB.out | apply below_alloc | apply pw_below_drewN | apply below_drew1) | exact HB.out))) : w.heap.size ≤ gb105)); clear HB; have HB := n0_; have BK105 := n1_; have GW105 := n2_; have GE105 := n3_; clear n0_ n1_ n2_ n3_; clear hb hbox hg)))
  (try simp only [Act.put, List.setIfInBounds_toArray, List.set_cons_zero, List.set_cons_succ])
  go_cut [21] (fun v21 wc => ∃ (kq : Nat) (x21_1 : Bool), v21 = .bool x21_1 ∧ Aside0 (spec_HullOk.j0 kq x21_1 a0_0 a0_1 l0_2 = some r) ∧ Aside0 (kq ≤ k) ∧ Aside0 (wc.heap[gb105]? = some (.cells #[.int .i64 a0_0, .int .i64 a0_1, (.slice A0_2 l0_2.length c0_2)] 28 (0, 0))) ∧ Aside0 (Below w.heap.size w wc))
  case first =>
    have H := HC2.out
    clear HC2
    replace H := Option.bind_eq_some_iff.mp H
    obtain ⟨t106, A40, H⟩ := H
    replace H : (if t106 = true then ((spec_l1In.f a0_1 1 20).bind fun t107 => (if t107 = true then ((spec_l1In.f (l0_2.length : Int) 2 12).bind fun t108 => (spec_HullOk.j0 k (!t108) a0_0 a0_1 l0_2)) else (spec_HullOk.j0 k true a0_0 a0_1 l0_2))) else (spec_HullOk.j0 k true a0_0 a0_1 l0_2)) = some r := H
    have A4 := Aside0.mk A40
    clear A40
    by_cases c5 : t106 = true
    · subst c5
      have H1 : ((spec_l1In.f a0_1 1 20).bind fun t107 => (if t107 = true then ((spec_l1In.f (l0_2.length : Int) 2 12).bind fun t108 => (spec_HullOk.j0 k (!t108) a0_0 a0_1 l0_2)) else (spec_HullOk.j0 k true a0_0 a0_1 l0_2))) = some r := by rw [if_pos rfl] at H; exact H
      clear H
      have H := H1
      clear H1
      replace H := Option.bind_eq_some_iff.mp H
      obtain ⟨t107, A60, H⟩ := H
      replace H : (if t107 = true then ((spec_l1In.f (l0_2.length : Int) 2 12).bind fun t108 => (spec_HullOk.j0 k (!t108) a0_0 a0_1 l0_2)) else (spec_HullOk.j0 k true a0_0 a0_1 l0_2)) = some r := H
      have A6 := Aside0.mk A60
      clear A60
      by_cases c7 : t107 = true
      · subst c7
        have H1 : ((spec_l1In.f (l0_2.length : Int) 2 12).bind fun t108 => (spec_HullOk.j0 k (!t108) a0_0 a0_1 l0_2)) = some r := by rw [if_pos rfl] at H; exact H
        clear H
        have H := H1
        clear H1
        replace H := Option.bind_eq_some_iff.mp H
        obtain ⟨t108, A80, H⟩ := H
        replace H : (spec_HullOk.j0 k (!t108) a0_0 a0_1 l0_2) = some r := H
        have A8 := Aside0.mk A80
        clear A80
        have H' := Aside0.mk H
        clear H
        have hcz9_0 : w3.cell? ⟨gb105, 0, none⟩ = some (.int .i64 a0_0) := (blk_cell BK105.out 0).trans rfl
        have hcz9_1 : w3.cell? ⟨gb105, 1, none⟩ = some (.int .i64 a0_1) := (blk_cell BK105.out 1).trans rfl
        have hcz9_2 : w3.cell? ⟨gb105, 2, none⟩ = some (.slice A0_2 l0_2.length c0_2) := (blk_cell BK105.out 2).trans rfl
        have hfz9_0 := blk_frozen BK105.out 0
        have hfz9_1 := blk_frozen BK105.out 1
        have hfz9_2 := blk_frozen BK105.out 2
        go_wp2_with (first | (go_at_call 28; (with_reducible refine (spec_l1In.calls a0_0 1 100 true _ A4.out).mono ?_); rintro e w' ⟨rfl, ⟨nd, rfl⟩⟩; (try first | exact ⟨rfl, _, World.drewN_drewN _ _ _⟩ | exact ⟨rfl, _, Eq.trans (World.drewN_drewN _ _ _) (congrArg (World.drewN _) (Nat.add_assoc _ _ _))⟩)) | (go_at_call 28; (with_reducible refine (spec_l1In.calls a0_1 1 20 true _ A6.out).mono ?_); rintro e w' ⟨rfl, ⟨nd, rfl⟩⟩; (try first | exact ⟨rfl, _, World.drewN_drewN _ _ _⟩ | exact ⟨rfl, _, Eq.trans (World.drewN_drewN _ _ _) (congrArg (World.drewN _) (Nat.add_assoc _ _ _))⟩)) | (go_at_call 28; (with_reducible refine (spec_l1In.calls (l0_2.length : Int) 2 12 t108 _ A8.out).mono ?_); rintro e w' ⟨rfl, ⟨nd, rfl⟩⟩; (try first | exact ⟨rfl, _, World.drewN_drewN _ _ _⟩ | exact ⟨rfl, _, Eq.trans (World.drewN_drewN _ _ _) (congrArg (World.drewN _) (Nat.add_assoc _ _ _))⟩)))
        repeat (go_quiet (first | (go_at_call 28; (with_reducible refine (spec_l1In.calls a0_0 1 100 true _ A4.out).mono ?_); rintro e w' ⟨rfl, ⟨nd, rfl⟩⟩; (try first | exact ⟨rfl, _, World.drewN_drewN _ _ _⟩ | exact ⟨rfl, _, Eq.trans (World.drewN_drewN _ _ _) (congrArg (World.drewN _) (Nat.add_assoc _ _ _))⟩)) | (go_at_call 28; (with_reducible refine (spec_l1In.calls a0_1 1 20 true _ A6.out).mono ?_); rintro e w' ⟨rfl, ⟨nd, rfl⟩⟩; (try first | exact ⟨rfl, _, World.drewN_drewN _ _ _⟩ | exact ⟨rfl, _, Eq.trans (World.drewN_drewN _ _ _) (congrArg (World.drewN _) (Nat.add_assoc _ _ _))⟩)) | (go_at_call 28; (with_reducible refine (spec_l1In.calls (l0_2.length : Int) 2 12 t108 _ A8.out).mono ?_); rintro e w' ⟨rfl, ⟨nd, rfl⟩⟩; (try first | exact ⟨rfl, _, World.drewN_drewN _ _ _⟩ | exact ⟨rfl, _, Eq.trans (World.drewN_drewN _ _ _) (congrArg (World.drewN _) (Nat.add_assoc _ _ _))⟩))); try go_wp2_with (first | (go_at_call 28; (with_reducible refine (spec_l1In.calls a0_0 1 100 true _ A4.out).mono ?_); rintro e w' ⟨rfl, ⟨nd, rfl⟩⟩; (try first | exact ⟨rfl, _, World.drewN_drewN _ _ _⟩ | exact ⟨rfl, _, Eq.trans (World.drewN_drewN _ _ _) (congrArg (World.drewN _) (Nat.add_assoc _ _ _))⟩)) | (go_at_call 28; (with_reducible refine (spec_l1In.calls a0_1 1 20 true _ A6.out).mono ?_); rintro e w' ⟨rfl, ⟨nd, rfl⟩⟩; (try first | exact ⟨rfl, _, World.drewN_drewN _ _ _⟩ | exact ⟨rfl, _, Eq.trans (World.drewN_drewN _ _ _) (congrArg (World.drewN _) (Nat.add_assoc _ _ _))⟩)) | (go_at_call 28; (with_reducible refine (spec_l1In.calls (l0_2.length : Int) 2 12 t108 _ A8.out).mono ?_); rintro e w' ⟨rfl, ⟨nd, rfl⟩⟩; (try first | exact ⟨rfl, _, World.drewN_drewN _ _ _⟩ | exact ⟨rfl, _, Eq.trans (World.drewN_drewN _ _ _) (congrArg (World.drewN _) (Nat.add_assoc _ _ _))⟩))))
        go_meet
        case rel => exact ⟨_, (!t108), (by first | rfl | (simp; done) | (simp [*]; done)), H', ⟨by first | omega | exact Nat.le_refl _⟩, ⟨by (with_reducible repeat (first | refine blk_drewN ?_ _ | refine blk_drew ?_ | refine blk_alloc ?_ _)); exact BK105.out⟩, ⟨by repeat (first | (with_reducible first | exact HB.out | apply below_alloc | apply pw_below_drewN | apply below_drew1 | refine below_set ?_ GE105.out) | exact HB.out)⟩⟩
      · replace c7 := Bool.eq_false_iff.mpr c7
        subst c7
        have H1 : (spec_HullOk.j0 k true a0_0 a0_1 l0_2) = some r := by rw [if_neg (show ¬ (false = true) by decide)] at H; exact H
        clear H
        have H := H1
        clear H1
        have H' := Aside0.mk H
        clear H
        have hcz10_0 : w3.cell? ⟨gb105, 0, none⟩ = some (.int .i64 a0_0) := (blk_cell BK105.out 0).trans rfl
        have hcz10_1 : w3.cell? ⟨gb105, 1, none⟩ = some (.int .i64 a0_1) := (blk_cell BK105.out 1).trans rfl
        have hcz10_2 : w3.cell? ⟨gb105, 2, none⟩ = some (.slice A0_2 l0_2.length c0_2) := (blk_cell BK105.out 2).trans rfl
        have hfz10_0 := blk_frozen BK105.out 0
        have hfz10_1 := blk_frozen BK105.out 1
        have hfz10_2 := blk_frozen BK105.out 2
        go_wp2_with (first | (go_at_call 28; (with_reducible refine (spec_l1In.calls a0_0 1 100 true _ A4.out).mono ?_); rintro e w' ⟨rfl, ⟨nd, rfl⟩⟩; (try first | exact ⟨rfl, _, World.drewN_drewN _ _ _⟩ | exact ⟨rfl, _, Eq.trans (World.drewN_drewN _ _ _) (congrArg (World.drewN _) (Nat.add_assoc _ _ _))⟩)) | (go_at_call 28; (with_reducible refine (spec_l1In.calls a0_1 1 20 false _ A6.out).mono ?_); rintro e w' ⟨rfl, ⟨nd, rfl⟩⟩; (try first | exact ⟨rfl, _, World.drewN_drewN _ _ _⟩ | exact ⟨rfl, _, Eq.trans (World.drewN_drewN _ _ _) (congrArg (World.drewN _) (Nat.add_assoc _ _ _))⟩)))
        repeat (go_quiet (first | (go_at_call 28; (with_reducible refine (spec_l1In.calls a0_0 1 100 true _ A4.out).mono ?_); rintro e w' ⟨rfl, ⟨nd, rfl⟩⟩; (try first | exact ⟨rfl, _, World.drewN_drewN _ _ _⟩ | exact ⟨rfl, _, Eq.trans (World.drewN_drewN _ _ _) (congrArg (World.drewN _) (Nat.add_assoc _ _ _))⟩)) | (go_at_call 28; (with_reducible refine (spec_l1In.calls a0_1 1 20 false _ A6.out).mono ?_); rintro e w' ⟨rfl, ⟨nd, rfl⟩⟩; (try first | exact ⟨rfl, _, World.drewN_drewN _ _ _⟩ | exact ⟨rfl, _, Eq.trans (World.drewN_drewN _ _ _) (congrArg (World.drewN _) (Nat.add_assoc _ _ _))⟩))); try go_wp2_with (first | (go_at_call 28; (with_reducible refine (spec_l1In.calls a0_0 1 100 true _ A4.out).mono ?_); rintro e w' ⟨rfl, ⟨nd, rfl⟩⟩; (try first | exact ⟨rfl, _, World.drewN_drewN _ _ _⟩ | exact ⟨rfl, _, Eq.trans (World.drewN_drewN _ _ _) (congrArg (World.drewN _) (Nat.add_assoc _ _ _))⟩)) | (go_at_call 28; (with_reducible refine (spec_l1In.calls a0_1 1 20 false _ A6.out).mono ?_); rintro e w' ⟨rfl, ⟨nd, rfl⟩⟩; (try first | exact ⟨rfl, _, World.drewN_drewN _ _ _⟩ | exact ⟨rfl, _, Eq.trans (World.drewN_drewN _ _ _) (congrArg (World.drewN _) (Nat.add_assoc _ _ _))⟩))))
        go_meet
        case rel => exact ⟨_, (true), (by first | rfl | (simp; done) | (simp [*]; done)), H', ⟨by first | omega | exact Nat.le_refl _⟩, ⟨by (with_reducible repeat (first | refine blk_drewN ?_ _ | refine blk_drew ?_ | refine blk_alloc ?_ _)); exact BK105.out⟩, ⟨by repeat (first | (with_reducible first | exact HB.out | apply below_alloc | apply pw_below_drewN | apply below_drew1 | refine below_set ?_ GE105.out) | exact HB.out)⟩⟩
    · replace c5 := Bool.eq_false_iff.mpr c5
      subst c5
      have H1 : (spec_HullOk.j0 k true a0_0 a0_1 l0_2) = some r := by rw [if_neg (show ¬ (false = true) by decide)] at H; exact H
      clear H
      have H := H1
      clear H1
      have H' := Aside0.mk H
      clear H
      have hcz11_0 : w3.cell? ⟨gb105, 0, none⟩ = some (.int .i64 a0_0) := (blk_cell BK105.out 0).trans rfl
      have hcz11_1 : w3.cell? ⟨gb105, 1, none⟩ = some (.int .i64 a0_1) := (blk_cell BK105.out 1).trans rfl
      have hcz11_2 : w3.cell? ⟨gb105, 2, none⟩ = some (.slice A0_2 l0_2.length c0_2) := (blk_cell BK105.out 2).trans rfl
      have hfz11_0 := blk_frozen BK105.out 0
      have hfz11_1 := blk_frozen BK105.out 1
      have hfz11_2 := blk_frozen BK105.out 2
      go_wp2_with (first | (go_at_call 28; (with_reducible refine (spec_l1In.calls a0_0 1 100 false _ A4.out).mono ?_); rintro e w' ⟨rfl, ⟨nd, rfl⟩⟩; (try first | exact ⟨rfl, _, World.drewN_drewN _ _ _⟩ | exact ⟨rfl, _, Eq.trans (World.drewN_drewN _ _ _) (congrArg (World.drewN _) (Nat.add_assoc _ _ _))⟩)))
      repeat (go_quiet (first | (go_at_call 28; (with_reducible refine (spec_l1In.calls a0_0 1 100 false _ A4.out).mono ?_); rintro e w' ⟨rfl, ⟨nd, rfl⟩⟩; (try first | exact ⟨rfl, _, World.drewN_drewN _ _ _⟩ | exact ⟨rfl, _, Eq.trans (World.drewN_drewN _ _ _) (congrArg (World.drewN _) (Nat.add_assoc _ _ _))⟩))); try go_wp2_with (first | (go_at_call 28; (with_reducible refine (spec_l1In.calls a0_0 1 100 false _ A4.out).mono ?_); rintro e w' ⟨rfl, ⟨nd, rfl⟩⟩; (try first | exact ⟨rfl, _, World.drewN_drewN _ _ _⟩ | exact ⟨rfl, _, Eq.trans (World.drewN_drewN _ _ _) (congrArg (World.drewN _) (Nat.add_assoc _ _ _))⟩))))
      go_meet
      case rel => exact ⟨_, (true), (by first | rfl | (simp; done) | (simp [*]; done)), H', ⟨by first | omega | exact Nat.le_refl _⟩, ⟨by (with_reducible repeat (first | refine blk_drewN ?_ _ | refine blk_drew ?_ | refine blk_alloc ?_ _)); exact BK105.out⟩, ⟨by repeat (first | (with_reducible first | exact HB.out | apply below_alloc | apply pw_below_drewN | apply below_drew1 | refine below_set ?_ GE105.out) | exact HB.out)⟩⟩
  case rest =>
    clear HC2
    try clear p2
    try clear c3
    try clear c5
    try clear c7
    try clear hcz10_0
    try clear hcz10_1
    try clear hcz10_2
    try clear hcz11_0
    try clear hcz11_1
    try clear hcz11_2
    try clear hcz9_0
    try clear hcz9_1
    try clear hcz9_2
    try clear hfz10_0
    try clear hfz10_1
    try clear hfz10_2
    try clear hfz11_0
    try clear hfz11_1
    try clear hfz11_2
    try clear hfz9_0
    try clear hfz9_1
    try clear hfz9_2
    obtain ⟨kq, x21_1, rfl, HA, HJ1, BK105, HB⟩ := hcut
    cases kq with
    | zero => exact absurd HA.out (by simp [spec_HullOk.j0])
    | succ kj1 =>
      have H := HA.out
      clear HA
      simp only [spec_HullOk.j0] at H
      by_cases c12 : x21_1 = true
      · subst c12
        have H1 : (some false) = some r := by rw [if_pos rfl] at H; exact H
        clear H
        have H := H1
        clear H1
        obtain rfl := Option.some.inj H
        go_wp2
        repeat (go_quiet (fail); try go_wp2)
        go_ret
        exact ⟨by first | rfl | (simp [errW_none, errW_some] <;> rfl) | (simp [*, errW_none, errW_some] <;> rfl), by repeat (first | (with_reducible first | exact HB.out | apply below_alloc | apply pw_below_drewN | apply below_drew1 | refine below_set ?_ GE105.out) | exact HB.out)⟩
      · replace c12 := Bool.eq_false_iff.mpr c12
        subst c12
        have H1 : (spec_HullOk.l0 kj1 0 a0_0 a0_1 l0_2) = some r := by rw [if_neg (show ¬ (false = true) by decide)] at H; exact H
        clear H
        have H := H1
        clear H1
        have H' := Aside0.mk H
        clear H
        go_wp2
        repeat (go_quiet (fail); try go_wp2)
        go_loopg [3] kj1 (fun kq v3 w' => ∃ (x3_2 : Int), v3 = .int .i64 x3_2 ∧ Aside0 (spec_HullOk.l0 kq x3_2 a0_0 a0_1 l0_2 = some r) ∧ Aside0 (kq ≤ kj1) ∧ Aside0 (w'.heap[gb105]? = some (.cells #[.int .i64 a0_0, .int .i64 a0_1, (.slice A0_2 l0_2.length c0_2)] 28 (0, 0))) ∧ Aside0 (Below w.heap.size w w'))
        case atStart => exact ⟨(0), (by first | rfl | (simp; done) | (simp [*]; done)), H', ⟨Nat.le_refl _⟩, ⟨by (with_reducible repeat (first | refine blk_drewN ?_ _ | refine blk_drew ?_ | refine blk_alloc ?_ _)); exact BK105.out⟩, ⟨by repeat (first | (with_reducible first | exact HB.out | apply below_alloc | apply pw_below_drewN | apply below_drew1 | refine below_set ?_ GE105.out) | exact HB.out)⟩⟩
        case round =>
          clear H'
          try clear c1
          try clear p2
          try clear c3
          try clear c5
          try clear c7
          try clear c12
          try clear hcz10_0
          try clear hcz10_1
          try clear hcz10_2
          try clear hcz11_0
          try clear hcz11_1
          try clear hcz11_2
          try clear hcz9_0
          try clear hcz9_1
          try clear hcz9_2
          try clear hfz10_0
          try clear hfz10_1
          try clear hfz10_2
          try clear hfz11_0
          try clear hfz11_1
          try clear hfz11_2
          try clear hfz9_0
          try clear hfz9_1
          try clear hfz9_2
          try clear p2
          obtain ⟨x3_2, rfl, HA, HK2, BK105, HB⟩ := hrel
          cases gk with
          | zero => exact absurd HA.out (by simp [spec_HullOk.l0])
          | succ k2 =>
            have H := HA.out
            clear HA
            simp only [spec_HullOk.l0] at H
            by_cases c13 : x3_2 < (l0_2.length : Int)
            · rw [if_pos c13] at H
              have c13b0 : decide (x3_2 < (l0_2.length : Int)) = true := decide_eq_true c13
              clear c13
              have HC14 := Aside0.mk H
              clear H
              have hcz15_0 : wr.cell? ⟨gb105, 0, none⟩ = some (.int .i64 a0_0) := (blk_cell BK105.out 0).trans rfl
              have hcz15_1 : wr.cell? ⟨gb105, 1, none⟩ = some (.int .i64 a0_1) := (blk_cell BK105.out 1).trans rfl
              have hcz15_2 : wr.cell? ⟨gb105, 2, none⟩ = some (.slice A0_2 l0_2.length c0_2) := (blk_cell BK105.out 2).trans rfl
              have hfz15_0 := blk_frozen BK105.out 0
              have hfz15_1 := blk_frozen BK105.out 1
              have hfz15_2 := blk_frozen BK105.out 2
              go_upto_region 6 with (fail)
              repeat (go_quiet (fail); go_upto_region 6 with (fail))
              go_cut [50] (fun v50 wc => ∃ (kq : Nat) (x50_13 : Bool), v50 = .bool x50_13 ∧ Aside0 (spec_HullOk.j2 kq x3_2 x50_13 a0_0 a0_1 l0_2 = some r) ∧ Aside0 (kq ≤ k2) ∧ Aside0 (wc.heap[gb105]? = some (.cells #[.int .i64 a0_0, .int .i64 a0_1, (.slice A0_2 l0_2.length c0_2)] 28 (0, 0))) ∧ Aside0 (Below w.heap.size w wc))
              case first =>
                have H := HC14.out
                clear HC14
                by_cases c16 : 0 ≤ x3_2
                · rw [if_pos c16] at H
                  have c16b0 : decide (0 ≤ x3_2) = true := decide_eq_true c16
                  clear c16
                  (first | rw [c16b0] | (simp only [i64_w, i32_w]; rw [c16b0]) | skip)
                  by_cases c17 : 0 < (l0_2.length : Int)
                  · rw [if_pos c17] at H
                    have c17b0 : decide (0 < (l0_2.length : Int)) = true := decide_eq_true c17
                    have c17b1 : decide (0 < l0_2.length) = true := decide_eq_true (by omega)
                    clear c17
                    by_cases c18 : ((rd_L1 l0_2 x3_2).length : Int) = ((rd_L1 l0_2 0).length : Int)
                    · rw [if_pos c18] at H
                      have c18b0 : (((rd_L1 l0_2 x3_2).length : Int) == ((rd_L1 l0_2 0).length : Int)) = true := beq_iff_eq.mpr c18
                      have c18b1 : (((rd_L1 l0_2 x3_2).length : Int) != ((rd_L1 l0_2 0).length : Int)) = false := bne_eq_false_iff_eq.mpr c18
                      have c18b2 : ((rd_L1 l0_2 x3_2).length == (rd_L1 l0_2 0).length) = true := by first | simpa using c18 | (simp at c18 ⊢; omega)
                      clear c18
                      replace H := Option.bind_eq_some_iff.mp H
                      obtain ⟨t112, A190, H⟩ := H
                      replace H : (spec_HullOk.j2 k2 x3_2 (!t112) a0_0 a0_1 l0_2) = some r := H
                      have A19 := Aside0.mk A190
                      clear A190
                      have H' := Aside0.mk H
                      clear H
                      have hcz20_0 : wr.cell? ⟨gb105, 0, none⟩ = some (.int .i64 a0_0) := (blk_cell BK105.out 0).trans rfl
                      have hcz20_1 : wr.cell? ⟨gb105, 1, none⟩ = some (.int .i64 a0_1) := (blk_cell BK105.out 1).trans rfl
                      have hcz20_2 : wr.cell? ⟨gb105, 2, none⟩ = some (.slice A0_2 l0_2.length c0_2) := (blk_cell BK105.out 2).trans rfl
                      have hfz20_0 := blk_frozen BK105.out 0
                      have hfz20_1 := blk_frozen BK105.out 1
                      have hfz20_2 := blk_frozen BK105.out 2
                      have p109 : 0 ≤ (x3_2 : Int) := of_decide_eq_true (by first | (with_reducible assumption) | assumption)
                      have q109 : x3_2 < (l0_2.length : Int) := of_decide_eq_true (by first | (with_reducible assumption) | assumption)
                      obtain ⟨ad109, A109_0, c109_0, e109, hx109_0, hl109_0, hi109_0⟩ := at_L1 HR0_2.out x3_2 p109 q109
                      cases e109
                      replace hx109_0 := (HB.out.cell (World.block_lt_of_cell? w _ hx109_0)).trans hx109_0
                      have HR109_0 := Aside0.mk hi109_0
                      have HC109_0 := Aside0.mk hl109_0
                      clear hi109_0 hl109_0
                      replace p109 := eq_true p109
                      replace q109 := eq_true q109
                      have p110 : 0 ≤ (0 : Int) := (by omega)
                      have q110 : 0 < (l0_2.length : Int) := of_decide_eq_true (by first | (with_reducible assumption) | assumption)
                      obtain ⟨ad110, A110_0, c110_0, e110, hx110_0, hl110_0, hi110_0⟩ := at_L1 HR0_2.out 0 p110 q110
                      obtain rfl : ad109 = ad110 := (by injection e110)
                      have qi110 : (0 < l0_2.length) = True := eq_true (by omega)
                      (try rw [show ((0 : Int)).toNat = 0 from rfl] at hx110_0)
                      (try rw [Addr.add_zero'] at hx110_0)
                      replace hx110_0 := (HB.out.cell (World.block_lt_of_cell? w _ hx110_0)).trans hx110_0
                      have HR110_0 := Aside0.mk hi110_0
                      have HC110_0 := Aside0.mk hl110_0
                      clear hi110_0 hl110_0
                      replace p110 := eq_true p110
                      replace q110 := eq_true q110
                      have p111 : 0 ≤ (x3_2 : Int) := of_decide_eq_true (by first | (with_reducible assumption) | assumption)
                      have q111 : x3_2 < (l0_2.length : Int) := of_decide_eq_true (by first | (with_reducible assumption) | assumption)
                      obtain ⟨ad111, A111_0, c111_0, e111, hx111_0, hl111_0, hi111_0⟩ := at_L1 HR0_2.out x3_2 p111 q111
                      obtain rfl : ad109 = ad111 := (by injection e111)
                      replace hx111_0 := (HB.out.cell (World.block_lt_of_cell? w _ hx111_0)).trans hx111_0
                      have HR111_0 := Aside0.mk hi111_0
                      have HC111_0 := Aside0.mk hl111_0
                      clear hi111_0 hl111_0
                      replace p111 := eq_true p111
                      replace q111 := eq_true q111
                      have ea_ := Option.some.inj (hx109_0.symm.trans hx111_0)
                      injection ea_ with ea_ en_ ec_
                      subst ea_
                      subst ec_
                      clear en_
                      go_wp2_with (first | (go_at_call 28; (with_reducible refine (spec_l1In.calls ((rd_L1 l0_2 x3_2).length : Int) 2 10 t112 _ A19.out).mono ?_); rintro e w' ⟨rfl, ⟨nd, rfl⟩⟩; (try first | exact ⟨rfl, _, World.drewN_drewN _ _ _⟩ | exact ⟨rfl, _, Eq.trans (World.drewN_drewN _ _ _) (congrArg (World.drewN _) (Nat.add_assoc _ _ _))⟩)))
                      repeat (go_quiet (first | (go_at_call 28; (with_reducible refine (spec_l1In.calls ((rd_L1 l0_2 x3_2).length : Int) 2 10 t112 _ A19.out).mono ?_); rintro e w' ⟨rfl, ⟨nd, rfl⟩⟩; (try first | exact ⟨rfl, _, World.drewN_drewN _ _ _⟩ | exact ⟨rfl, _, Eq.trans (World.drewN_drewN _ _ _) (congrArg (World.drewN _) (Nat.add_assoc _ _ _))⟩))); try go_wp2_with (first | (go_at_call 28; (with_reducible refine (spec_l1In.calls ((rd_L1 l0_2 x3_2).length : Int) 2 10 t112 _ A19.out).mono ?_); rintro e w' ⟨rfl, ⟨nd, rfl⟩⟩; (try first | exact ⟨rfl, _, World.drewN_drewN _ _ _⟩ | exact ⟨rfl, _, Eq.trans (World.drewN_drewN _ _ _) (congrArg (World.drewN _) (Nat.add_assoc _ _ _))⟩))))
                      go_meet
                      case rel => exact ⟨_, (!t112), (by first | rfl | (simp; done) | (simp [*]; done)), H', ⟨by have := HJ1.out; have := HK2.out; first | omega | exact Nat.le_refl _⟩, ⟨by (with_reducible repeat (first | refine blk_drewN ?_ _ | refine blk_drew ?_ | refine blk_alloc ?_ _)); exact BK105.out⟩, ⟨by repeat (first | (with_reducible first | exact HB.out | apply below_alloc | apply pw_below_drewN | apply below_drew1 | refine below_set ?_ GE105.out) | exact HB.out)⟩⟩
                    · rw [if_neg c18] at H
                      have c18b0 : (((rd_L1 l0_2 x3_2).length : Int) == ((rd_L1 l0_2 0).length : Int)) = false := beq_eq_false_iff_ne.mpr c18
                      have c18b1 : (((rd_L1 l0_2 x3_2).length : Int) != ((rd_L1 l0_2 0).length : Int)) = true := bne_iff_ne.mpr c18
                      have c18b2 : ((rd_L1 l0_2 x3_2).length == (rd_L1 l0_2 0).length) = false := by first | simpa using c18 | (simp at c18 ⊢; omega)
                      have H' := Aside0.mk H
                      clear H
                      have hcz21_0 : wr.cell? ⟨gb105, 0, none⟩ = some (.int .i64 a0_0) := (blk_cell BK105.out 0).trans rfl
                      have hcz21_1 : wr.cell? ⟨gb105, 1, none⟩ = some (.int .i64 a0_1) := (blk_cell BK105.out 1).trans rfl
                      have hcz21_2 : wr.cell? ⟨gb105, 2, none⟩ = some (.slice A0_2 l0_2.length c0_2) := (blk_cell BK105.out 2).trans rfl
                      have hfz21_0 := blk_frozen BK105.out 0
                      have hfz21_1 := blk_frozen BK105.out 1
                      have hfz21_2 := blk_frozen BK105.out 2
                      have p109 : 0 ≤ (x3_2 : Int) := of_decide_eq_true (by first | (with_reducible assumption) | assumption)
                      have q109 : x3_2 < (l0_2.length : Int) := of_decide_eq_true (by first | (with_reducible assumption) | assumption)
                      obtain ⟨ad109, A109_0, c109_0, e109, hx109_0, hl109_0, hi109_0⟩ := at_L1 HR0_2.out x3_2 p109 q109
                      cases e109
                      replace hx109_0 := (HB.out.cell (World.block_lt_of_cell? w _ hx109_0)).trans hx109_0
                      have HR109_0 := Aside0.mk hi109_0
                      have HC109_0 := Aside0.mk hl109_0
                      clear hi109_0 hl109_0
                      replace p109 := eq_true p109
                      replace q109 := eq_true q109
                      have p110 : 0 ≤ (0 : Int) := (by omega)
                      have q110 : 0 < (l0_2.length : Int) := of_decide_eq_true (by first | (with_reducible assumption) | assumption)
                      obtain ⟨ad110, A110_0, c110_0, e110, hx110_0, hl110_0, hi110_0⟩ := at_L1 HR0_2.out 0 p110 q110
                      obtain rfl : ad109 = ad110 := (by injection e110)
                      have qi110 : (0 < l0_2.length) = True := eq_true (by omega)
                      (try rw [show ((0 : Int)).toNat = 0 from rfl] at hx110_0)
                      (try rw [Addr.add_zero'] at hx110_0)
                      replace hx110_0 := (HB.out.cell (World.block_lt_of_cell? w _ hx110_0)).trans hx110_0
                      have HR110_0 := Aside0.mk hi110_0
                      have HC110_0 := Aside0.mk hl110_0
                      clear hi110_0 hl110_0
                      replace p110 := eq_true p110
                      replace q110 := eq_true q110
                      go_wp2
                      repeat (go_quiet (fail); try go_wp2)
                      go_meet
                      case rel => exact ⟨_, (true), (by first | rfl | (simp; done) | (simp [*]; done)), H', ⟨by have := HJ1.out; have := HK2.out; first | omega | exact Nat.le_refl _⟩, ⟨by (with_reducible repeat (first | refine blk_drewN ?_ _ | refine blk_drew ?_ | refine blk_alloc ?_ _)); exact BK105.out⟩, ⟨by repeat (first | (with_reducible first | exact HB.out | apply below_alloc | apply pw_below_drewN | apply below_drew1 | refine below_set ?_ GE105.out) | exact HB.out)⟩⟩
                  · rw [if_neg c17] at H
                    exact absurd H (by simp)
                · rw [if_neg c16] at H
                  exact absurd H (by simp)
              case rest =>
                clear HC14
                try clear c1
                try clear p1
                try clear q1
                try clear hx1
                try clear qi1
                try clear p2
                try clear c3
                try clear c5
                try clear c7
                try clear c10
                try clear p10
                try clear q10
                try clear hx10
                try clear c11
                try clear p11
                try clear q11
                try clear hx11
                try clear qi11
                try clear c12
                try clear c13
                try clear c13b0
                try clear c16
                try clear c16b0
                try clear c17
                try clear c17b0
                try clear c17b1
                try clear c18
                try clear c18b0
                try clear c18b1
                try clear c18b2
                try clear hcz10_0
                try clear hcz10_1
                try clear hcz10_2
                try clear hcz11_0
                try clear hcz11_1
                try clear hcz11_2
                try clear hcz15_0
                try clear hcz15_1
                try clear hcz15_2
                try clear hcz20_0
                try clear hcz20_1
                try clear hcz20_2
                try clear hcz21_0
                try clear hcz21_1
                try clear hcz21_2
                try clear hcz9_0
                try clear hcz9_1
                try clear hcz9_2
                try clear hfz10_0
                try clear hfz10_1
                try clear hfz10_2
                try clear hfz11_0
                try clear hfz11_1
                try clear hfz11_2
                try clear hfz15_0
                try clear hfz15_1
                try clear hfz15_2
                try clear hfz20_0
                try clear hfz20_1
                try clear hfz20_2
                try clear hfz21_0
                try clear hfz21_1
                try clear hfz21_2
                try clear hfz9_0
                try clear hfz9_1
                try clear hfz9_2
                try clear hx109_0
                try clear hx110_0
                try clear hx111_0
                try clear p109
                try clear p110
                try clear p111
                try clear p2
                try clear q109
                try clear q110
                try clear q111
                obtain ⟨kq, x50_13, rfl, HA, HJ13, BK105, HB⟩ := hcut
                cases kq with
                | zero => exact absurd HA.out (by simp [spec_HullOk.j2])
                | succ kj13 =>
                  have H := HA.out
                  clear HA
                  simp only [spec_HullOk.j2] at H
                  by_cases c22 : x50_13 = true
                  · subst c22
                    have H1 : (some false) = some r := by rw [if_pos rfl] at H; exact H
                    clear H
                    have H := H1
                    clear H1
                    obtain rfl := Option.some.inj H
                    go_wp2
                    repeat (go_quiet (fail); try go_wp2)
                    go_ret
                    exact ⟨by first | rfl | (simp [errW_none, errW_some] <;> rfl) | (simp [*, errW_none, errW_some] <;> rfl), by repeat (first | (with_reducible first | exact HB.out | apply below_alloc | apply pw_below_drewN | apply below_drew1 | refine below_set ?_ GE105.out) | exact HB.out)⟩
                  · replace c22 := Bool.eq_false_iff.mpr c22
                    subst c22
                    have H1 : (spec_HullOk.l1 kj13 x3_2 0 a0_0 a0_1 l0_2) = some r := by rw [if_neg (show ¬ (false = true) by decide)] at H; exact H
                    clear H
                    have H := H1
                    clear H1
                    have H' := Aside0.mk H
                    clear H
                    go_wp2
                    repeat (go_quiet (fail); try go_wp2)
                    go_loopg [4] kj13 (fun kq v4 w' => ∃ (x4_4 : Int), v4 = .int .i64 x4_4 ∧ Aside0 (spec_HullOk.l1 kq x3_2 x4_4 a0_0 a0_1 l0_2 = some r) ∧ Aside0 (kq ≤ kj13) ∧ Aside0 (w'.heap[gb105]? = some (.cells #[.int .i64 a0_0, .int .i64 a0_1, (.slice A0_2 l0_2.length c0_2)] 28 (0, 0))) ∧ Aside0 (Below w.heap.size w w'))
                    case atStart => exact ⟨(0), (by first | rfl | (simp; done) | (simp [*]; done)), H', ⟨Nat.le_refl _⟩, ⟨by (with_reducible repeat (first | refine blk_drewN ?_ _ | refine blk_drew ?_ | refine blk_alloc ?_ _)); exact BK105.out⟩, ⟨by repeat (first | (with_reducible first | exact HB.out | apply below_alloc | apply pw_below_drewN | apply below_drew1 | refine below_set ?_ GE105.out) | exact HB.out)⟩⟩
                    case round =>
                      clear H'
                      try clear c1
                      try clear p1
                      try clear q1
                      try clear hx1
                      try clear qi1
                      try clear c2
                      try clear p2
                      try clear c3
                      try clear c5
                      try clear c7
                      try clear c10
                      try clear p10
                      try clear q10
                      try clear hx10
                      try clear c11
                      try clear p11
                      try clear q11
                      try clear hx11
                      try clear qi11
                      try clear c12
                      try clear c13
                      try clear c13b0
                      try clear c16
                      try clear c16b0
                      try clear c17
                      try clear c17b0
                      try clear c17b1
                      try clear c18
                      try clear c18b0
                      try clear c18b1
                      try clear c18b2
                      try clear c22
                      try clear hcz10_0
                      try clear hcz10_1
                      try clear hcz10_2
                      try clear hcz11_0
                      try clear hcz11_1
                      try clear hcz11_2
                      try clear hcz15_0
                      try clear hcz15_1
                      try clear hcz15_2
                      try clear hcz20_0
                      try clear hcz20_1
                      try clear hcz20_2
                      try clear hcz21_0
                      try clear hcz21_1
                      try clear hcz21_2
                      try clear hcz9_0
                      try clear hcz9_1
                      try clear hcz9_2
                      try clear hfz10_0
                      try clear hfz10_1
                      try clear hfz10_2
                      try clear hfz11_0
                      try clear hfz11_1
                      try clear hfz11_2
                      try clear hfz15_0
                      try clear hfz15_1
                      try clear hfz15_2
                      try clear hfz20_0
                      try clear hfz20_1
                      try clear hfz20_2
                      try clear hfz21_0
                      try clear hfz21_1
                      try clear hfz21_2
                      try clear hfz9_0
                      try clear hfz9_1
                      try clear hfz9_2
                      try clear hx109_0
                      try clear hx110_0
                      try clear hx111_0
                      try clear p1
                      try clear p10
                      try clear p109
                      try clear p11
                      try clear p110
                      try clear p111
                      try clear p2
                      try clear q1
                      try clear q10
                      try clear q109
                      try clear q11
                      try clear q110
                      try clear q111
                      obtain ⟨x4_4, rfl, HA, HK4, BK105, HB⟩ := hrel
                      cases gk with
                      | zero => exact absurd HA.out (by simp [spec_HullOk.l1])
                      | succ k4 =>
                        have H := HA.out
                        clear HA
                        simp only [spec_HullOk.l1] at H
                        by_cases c23 : 0 ≤ x3_2
                        · rw [if_pos c23] at H
                          have c23b0 : decide (0 ≤ x3_2) = true := decide_eq_true c23
                          clear c23
                          by_cases c24 : x3_2 < (l0_2.length : Int)
                          · rw [if_pos c24] at H
                            have c24b0 : decide (x3_2 < (l0_2.length : Int)) = true := decide_eq_true c24
                            clear c24
                            by_cases c25 : x4_4 < ((rd_L1 l0_2 x3_2).length : Int)
                            · rw [if_pos c25] at H
                              have c25b0 : decide (x4_4 < ((rd_L1 l0_2 x3_2).length : Int)) = true := decide_eq_true c25
                              clear c25
                              by_cases c26 : 0 ≤ x4_4
                              · rw [if_pos c26] at H
                                have c26b0 : decide (0 ≤ x4_4) = true := decide_eq_true c26
                                clear c26
                                replace H := Option.bind_eq_some_iff.mp H
                                obtain ⟨t116, A270, H⟩ := H
                                replace H : (if t116 = true then (spec_HullOk.l1 k4 x3_2 (wrap64 (x4_4 + 1)) a0_0 a0_1 l0_2) else (some false)) = some r := H
                                have A27 := Aside0.mk A270
                                clear A270
                                by_cases c28 : t116 = true
                                · subst c28
                                  have H1 : (spec_HullOk.l1 k4 x3_2 (wrap64 (x4_4 + 1)) a0_0 a0_1 l0_2) = some r := by rw [if_pos rfl] at H; exact H
                                  clear H
                                  have H := H1
                                  clear H1
                                  have H' := Aside0.mk H
                                  clear H
                                  have hcz29_0 : wr.cell? ⟨gb105, 0, none⟩ = some (.int .i64 a0_0) := (blk_cell BK105.out 0).trans rfl
                                  have hcz29_1 : wr.cell? ⟨gb105, 1, none⟩ = some (.int .i64 a0_1) := (blk_cell BK105.out 1).trans rfl
                                  have hcz29_2 : wr.cell? ⟨gb105, 2, none⟩ = some (.slice A0_2 l0_2.length c0_2) := (blk_cell BK105.out 2).trans rfl
                                  have hfz29_0 := blk_frozen BK105.out 0
                                  have hfz29_1 := blk_frozen BK105.out 1
                                  have hfz29_2 := blk_frozen BK105.out 2
                                  have p113 : 0 ≤ (x3_2 : Int) := of_decide_eq_true (by first | (with_reducible assumption) | assumption)
                                  have q113 : x3_2 < (l0_2.length : Int) := of_decide_eq_true (by first | (with_reducible assumption) | assumption)
                                  obtain ⟨ad113, A113_0, c113_0, e113, hx113_0, hl113_0, hi113_0⟩ := at_L1 HR0_2.out x3_2 p113 q113
                                  cases e113
                                  replace hx113_0 := (HB.out.cell (World.block_lt_of_cell? w _ hx113_0)).trans hx113_0
                                  have HR113_0 := Aside0.mk hi113_0
                                  have HC113_0 := Aside0.mk hl113_0
                                  clear hi113_0 hl113_0
                                  replace p113 := eq_true p113
                                  replace q113 := eq_true q113
                                  have p114 : 0 ≤ (x3_2 : Int) := of_decide_eq_true (by first | (with_reducible assumption) | assumption)
                                  have q114 : x3_2 < (l0_2.length : Int) := of_decide_eq_true (by first | (with_reducible assumption) | assumption)
                                  obtain ⟨ad114, A114_0, c114_0, e114, hx114_0, hl114_0, hi114_0⟩ := at_L1 HR0_2.out x3_2 p114 q114
                                  obtain rfl : ad113 = ad114 := (by injection e114)
                                  replace hx114_0 := (HB.out.cell (World.block_lt_of_cell? w _ hx114_0)).trans hx114_0
                                  have HR114_0 := Aside0.mk hi114_0
                                  have HC114_0 := Aside0.mk hl114_0
                                  clear hi114_0 hl114_0
                                  replace p114 := eq_true p114
                                  replace q114 := eq_true q114
                                  have ea_ := Option.some.inj (hx113_0.symm.trans hx114_0)
                                  injection ea_ with ea_ en_ ec_
                                  subst ea_
                                  subst ec_
                                  clear en_
                                  have p115 : 0 ≤ (x4_4 : Int) := of_decide_eq_true (by first | (with_reducible assumption) | assumption)
                                  have q115 : x4_4 < ((rd_L1 l0_2 x3_2).length : Int) := of_decide_eq_true (by first | (with_reducible assumption) | assumption)
                                  obtain ⟨ad115, e115, hx115_0⟩ := Kd.at_int HR114_0.out x4_4 p115 q115
                                  cases e115
                                  replace hx115_0 := (HB.out.cell (World.block_lt_of_cell? w _ hx115_0)).trans hx115_0
                                  replace p115 := eq_true p115
                                  replace q115 := eq_true q115
                                  go_wp2_with (first | (go_at_call 28; (with_reducible refine (spec_l1In.calls (rd (rd_L1 l0_2 x3_2) x4_4) 0 50 true _ A27.out).mono ?_); rintro e w' ⟨rfl, ⟨nd, rfl⟩⟩; (try first | exact ⟨rfl, _, World.drewN_drewN _ _ _⟩ | exact ⟨rfl, _, Eq.trans (World.drewN_drewN _ _ _) (congrArg (World.drewN _) (Nat.add_assoc _ _ _))⟩)))
                                  repeat (go_quiet (first | (go_at_call 28; (with_reducible refine (spec_l1In.calls (rd (rd_L1 l0_2 x3_2) x4_4) 0 50 true _ A27.out).mono ?_); rintro e w' ⟨rfl, ⟨nd, rfl⟩⟩; (try first | exact ⟨rfl, _, World.drewN_drewN _ _ _⟩ | exact ⟨rfl, _, Eq.trans (World.drewN_drewN _ _ _) (congrArg (World.drewN _) (Nat.add_assoc _ _ _))⟩))); try go_wp2_with (first | (go_at_call 28; (with_reducible refine (spec_l1In.calls (rd (rd_L1 l0_2 x3_2) x4_4) 0 50 true _ A27.out).mono ?_); rintro e w' ⟨rfl, ⟨nd, rfl⟩⟩; (try first | exact ⟨rfl, _, World.drewN_drewN _ _ _⟩ | exact ⟨rfl, _, Eq.trans (World.drewN_drewN _ _ _) (congrArg (World.drewN _) (Nat.add_assoc _ _ _))⟩))))
                                  go_roundg k4
                                  case measure => have := HJ1.out; have := HK2.out; have := HJ13.out; have := HK4.out; omega
                                  case rel => exact ⟨(wrap64 (x4_4 + 1)), (by first | rfl | (simp; done) | (simp [*]; done)), H', ⟨by have := HJ1.out; have := HK2.out; have := HJ13.out; have := HK4.out; omega⟩, ⟨by (with_reducible repeat (first | refine blk_drewN ?_ _ | refine blk_drew ?_ | refine blk_alloc ?_ _)); exact BK105.out⟩, ⟨by repeat (first | (with_reducible first | exact HB.out | apply below_alloc | apply pw_below_drewN | apply below_drew1 | refine below_set ?_ GE105.out) | exact HB.out)⟩⟩
                                · replace c28 := Bool.eq_false_iff.mpr c28
                                  subst c28
                                  have H1 : (some false) = some r := by rw [if_neg (show ¬ (false = true) by decide)] at H; exact H
                                  clear H
                                  have H := H1
                                  clear H1
                                  obtain rfl := Option.some.inj H
                                  have hcz30_0 : wr.cell? ⟨gb105, 0, none⟩ = some (.int .i64 a0_0) := (blk_cell BK105.out 0).trans rfl
                                  have hcz30_1 : wr.cell? ⟨gb105, 1, none⟩ = some (.int .i64 a0_1) := (blk_cell BK105.out 1).trans rfl
                                  have hcz30_2 : wr.cell? ⟨gb105, 2, none⟩ = some (.slice A0_2 l0_2.length c0_2) := (blk_cell BK105.out 2).trans rfl
                                  have hfz30_0 := blk_frozen BK105.out 0
                                  have hfz30_1 := blk_frozen BK105.out 1
                                  have hfz30_2 := blk_frozen BK105.out 2
                                  have p113 : 0 ≤ (x3_2 : Int) := of_decide_eq_true (by first | (with_reducible assumption) | assumption)
                                  have q113 : x3_2 < (l0_2.length : Int) := of_decide_eq_true (by first | (with_reducible assumption) | assumption)
                                  obtain ⟨ad113, A113_0, c113_0, e113, hx113_0, hl113_0, hi113_0⟩ := at_L1 HR0_2.out x3_2 p113 q113
                                  cases e113
                                  replace hx113_0 := (HB.out.cell (World.block_lt_of_cell? w _ hx113_0)).trans hx113_0
                                  have HR113_0 := Aside0.mk hi113_0
                                  have HC113_0 := Aside0.mk hl113_0
                                  clear hi113_0 hl113_0
                                  replace p113 := eq_true p113
                                  replace q113 := eq_true q113
                                  have p114 : 0 ≤ (x3_2 : Int) := of_decide_eq_true (by first | (with_reducible assumption) | assumption)
                                  have q114 : x3_2 < (l0_2.length : Int) := of_decide_eq_true (by first | (with_reducible assumption) | assumption)
                                  obtain ⟨ad114, A114_0, c114_0, e114, hx114_0, hl114_0, hi114_0⟩ := at_L1 HR0_2.out x3_2 p114 q114
                                  obtain rfl : ad113 = ad114 := (by injection e114)
                                  replace hx114_0 := (HB.out.cell (World.block_lt_of_cell? w _ hx114_0)).trans hx114_0
                                  have HR114_0 := Aside0.mk hi114_0
                                  have HC114_0 := Aside0.mk hl114_0
                                  clear hi114_0 hl114_0
                                  replace p114 := eq_true p114
                                  replace q114 := eq_true q114
                                  have ea_ := Option.some.inj (hx113_0.symm.trans hx114_0)
                                  injection ea_ with ea_ en_ ec_
                                  subst ea_
                                  subst ec_
                                  clear en_
                                  have p115 : 0 ≤ (x4_4 : Int) := of_decide_eq_true (by first | (with_reducible assumption) | assumption)
                                  have q115 : x4_4 < ((rd_L1 l0_2 x3_2).length : Int) := of_decide_eq_true (by first | (with_reducible assumption) | assumption)
                                  obtain ⟨ad115, e115, hx115_0⟩ := Kd.at_int HR114_0.out x4_4 p115 q115
                                  cases e115
                                  replace hx115_0 := (HB.out.cell (World.block_lt_of_cell? w _ hx115_0)).trans hx115_0
                                  replace p115 := eq_true p115
                                  replace q115 := eq_true q115
                                  go_wp2_with (first | (go_at_call 28; (with_reducible refine (spec_l1In.calls (rd (rd_L1 l0_2 x3_2) x4_4) 0 50 false _ A27.out).mono ?_); rintro e w' ⟨rfl, ⟨nd, rfl⟩⟩; (try first | exact ⟨rfl, _, World.drewN_drewN _ _ _⟩ | exact ⟨rfl, _, Eq.trans (World.drewN_drewN _ _ _) (congrArg (World.drewN _) (Nat.add_assoc _ _ _))⟩)))
                                  repeat (go_quiet (first | (go_at_call 28; (with_reducible refine (spec_l1In.calls (rd (rd_L1 l0_2 x3_2) x4_4) 0 50 false _ A27.out).mono ?_); rintro e w' ⟨rfl, ⟨nd, rfl⟩⟩; (try first | exact ⟨rfl, _, World.drewN_drewN _ _ _⟩ | exact ⟨rfl, _, Eq.trans (World.drewN_drewN _ _ _) (congrArg (World.drewN _) (Nat.add_assoc _ _ _))⟩))); try go_wp2_with (first | (go_at_call 28; (with_reducible refine (spec_l1In.calls (rd (rd_L1 l0_2 x3_2) x4_4) 0 50 false _ A27.out).mono ?_); rintro e w' ⟨rfl, ⟨nd, rfl⟩⟩; (try first | exact ⟨rfl, _, World.drewN_drewN _ _ _⟩ | exact ⟨rfl, _, Eq.trans (World.drewN_drewN _ _ _) (congrArg (World.drewN _) (Nat.add_assoc _ _ _))⟩))))
                                  go_ret
                                  exact ⟨by first | rfl | (simp [errW_none, errW_some] <;> rfl) | (simp [*, errW_none, errW_some] <;> rfl), by repeat (first | (with_reducible first | exact HB.out | apply below_alloc | apply pw_below_drewN | apply below_drew1 | refine below_set ?_ GE105.out) | exact HB.out)⟩
                              · rw [if_neg c26] at H
                                exact absurd H (by simp)
                            · rw [if_neg c25] at H
                              have c25b0 : decide (x4_4 < ((rd_L1 l0_2 x3_2).length : Int)) = false := decide_eq_false c25
                              clear c25
                              have H' := Aside0.mk H
                              clear H
                              have hcz31_0 : wr.cell? ⟨gb105, 0, none⟩ = some (.int .i64 a0_0) := (blk_cell BK105.out 0).trans rfl
                              have hcz31_1 : wr.cell? ⟨gb105, 1, none⟩ = some (.int .i64 a0_1) := (blk_cell BK105.out 1).trans rfl
                              have hcz31_2 : wr.cell? ⟨gb105, 2, none⟩ = some (.slice A0_2 l0_2.length c0_2) := (blk_cell BK105.out 2).trans rfl
                              have hfz31_0 := blk_frozen BK105.out 0
                              have hfz31_1 := blk_frozen BK105.out 1
                              have hfz31_2 := blk_frozen BK105.out 2
                              have p113 : 0 ≤ (x3_2 : Int) := of_decide_eq_true (by first | (with_reducible assumption) | assumption)
                              have q113 : x3_2 < (l0_2.length : Int) := of_decide_eq_true (by first | (with_reducible assumption) | assumption)
                              obtain ⟨ad113, A113_0, c113_0, e113, hx113_0, hl113_0, hi113_0⟩ := at_L1 HR0_2.out x3_2 p113 q113
                              cases e113
                              replace hx113_0 := (HB.out.cell (World.block_lt_of_cell? w _ hx113_0)).trans hx113_0
                              have HR113_0 := Aside0.mk hi113_0
                              have HC113_0 := Aside0.mk hl113_0
                              clear hi113_0 hl113_0
                              replace p113 := eq_true p113
                              replace q113 := eq_true q113
                              go_wp2
                              repeat (go_quiet (fail); try go_wp2)
                              go_roundg k4
                              case measure => have := HJ1.out; have := HK2.out; have := HJ13.out; have := HK4.out; omega
                              case rel => exact ⟨(wrap64 (x3_2 + 1)), (by first | rfl | (simp; done) | (simp [*]; done)), H', ⟨by have := HJ1.out; have := HK2.out; have := HJ13.out; have := HK4.out; omega⟩, ⟨by (with_reducible repeat (first | refine blk_drewN ?_ _ | refine blk_drew ?_ | refine blk_alloc ?_ _)); exact BK105.out⟩, ⟨by repeat (first | (with_reducible first | exact HB.out | apply below_alloc | apply pw_below_drewN | apply below_drew1 | refine below_set ?_ GE105.out) | exact HB.out)⟩⟩
                          · rw [if_neg c24] at H
                            exact absurd H (by simp)
                        · rw [if_neg c23] at H
                          exact absurd H (by simp)
            · rw [if_neg c13] at H
              have c13b0 : decide (x3_2 < (l0_2.length : Int)) = false := decide_eq_false c13
              clear c13
              obtain rfl := Option.some.inj H
              have hcz32_0 : wr.cell? ⟨gb105, 0, none⟩ = some (.int .i64 a0_0) := (blk_cell BK105.out 0).trans rfl
              have hcz32_1 : wr.cell? ⟨gb105, 1, none⟩ = some (.int .i64 a0_1) := (blk_cell BK105.out 1).trans rfl
              have hcz32_2 : wr.cell? ⟨gb105, 2, none⟩ = some (.slice A0_2 l0_2.length c0_2) := (blk_cell BK105.out 2).trans rfl
              have hfz32_0 := blk_frozen BK105.out 0
              have hfz32_1 := blk_frozen BK105.out 1
              have hfz32_2 := blk_frozen BK105.out 2
              go_wp2
              repeat (go_quiet (fail); try go_wp2)
              go_ret
              exact ⟨by first | rfl | (simp [errW_none, errW_some] <;> rfl) | (simp [*, errW_none, errW_some] <;> rfl), by repeat (first | (with_reducible first | exact HB.out | apply below_alloc | apply pw_below_drewN | apply below_drew1 | refine below_set ?_ GE105.out) | exact HB.out)⟩

/-! ### spec_l1Water: function 21 -/
def spec_l1Water.f (k : Nat) (a0_0 : Int) (a0_1 : Int) (l0_2 : List (List Int)) (a1 : Int) : Option (Bool) := (spec_HullOk.f k a0_0 a0_1 l0_2).bind fun t118 => (if t118 = true then (if 0 < (l0_2.length : Int) then ((spec_l1In.f a1 0 (wrap64 (((rd_L1 l0_2 0).length : Int) - 1))).bind fun t120 => (some t120)) else (none)) else (some false))
theorem spec_l1Water.mono : ∀ a0 a1 a2 a3 k, LeO (spec_l1Water.f k a0 a1 a2 a3) (spec_l1Water.f (k + 1) a0 a1 a2 a3) := by
  intro a0 a1 a2 a3 k
  unfold spec_l1Water.f
  repeat' first
      | (with_reducible exact spec_HullOk.mono _ _ _ _)
      | (with_reducible exact LeO.refl _)
      | (with_reducible exact LeO.none _)
      | (with_reducible refine LeO.ite ?_ ?_)
      | (with_reducible refine LeO.bind ?_ (fun _ => ?_))
      | exact spec_HullOk.mono _ _ _ _
      | exact LeO.none _
      | refine LeO.ite ?_ ?_
      | refine LeO.bind ?_ (fun _ => ?_)
set_option maxHeartbeats 8000000 in
set_option maxRecDepth 100000 in
theorem spec_l1Water.calls (k : Nat) (a0_0 : Int) (a0_1 : Int) (A0_2 : Option Addr) (c0_2 : Nat) (l0_2 : List (List Int)) (a1 : Int) (r : Bool) (w : World) (hr0_2 : Kd.C (Kd.slice 3 (Kd.int .i64)) w A0_2 l0_2.length l0_2) (hc0_2 : l0_2.length ≤ c0_2) (h : spec_l1Water.f k a0_0 a0_1 l0_2 a1 = some r) :
    Calls Try.prog 21 #[.agg #[.int .i64 a0_0, .int .i64 a0_1, .slice A0_2 l0_2.length c0_2], .int .i64 a1] w fun e w' => e = .returned (.bool r) ∧ Below w.heap.size w w' := by
  have hu28 := Try.underlying28
  have HR0_2 := Aside0.mk hr0_2
  have HC0_2 := Aside0.mk hc0_2
  clear hr0_2 hc0_2
  have HB := Aside0.mk (Below.refl w.heap.size w)
  have H : ((spec_HullOk.f k a0_0 a0_1 l0_2).bind fun t118 => (if t118 = true then (if 0 < (l0_2.length : Int) then ((spec_l1In.f a1 0 (wrap64 (((rd_L1 l0_2 0).length : Int) - 1))).bind fun t120 => (some t120)) else (none)) else (some false))) = some r := h
  clear h
  replace H := Option.bind_eq_some_iff.mp H
  obtain ⟨t118, A30, H⟩ := H
  replace H : (if t118 = true then (if 0 < (l0_2.length : Int) then ((spec_l1In.f a1 0 (wrap64 (((rd_L1 l0_2 0).length : Int) - 1))).bind fun t120 => (some t120)) else (none)) else (some false)) = some r := H
  have A3 := Aside0.mk A30
  clear A30
  by_cases c4 : t118 = true
  · subst c4
    have H1 : (if 0 < (l0_2.length : Int) then ((spec_l1In.f a1 0 (wrap64 (((rd_L1 l0_2 0).length : Int) - 1))).bind fun t120 => (some t120)) else (none)) = some r := by rw [if_pos rfl] at H; exact H
    clear H
    have H := H1
    clear H1
    by_cases c5 : 0 < (l0_2.length : Int)
    · rw [if_pos c5] at H
      have c5b0 : decide (0 < (l0_2.length : Int)) = true := decide_eq_true c5
      have c5b1 : decide (0 < l0_2.length) = true := decide_eq_true (by omega)
      clear c5
      replace H := Option.bind_eq_some_iff.mp H
      obtain ⟨t120, A60, H⟩ := H
      replace H : (some t120) = some r := H
      have A6 := Aside0.mk A60
      clear A60
      obtain rfl := Option.some.inj H
      go_enter Try.func21, Try.ntmps21
      go_wp2_with (first | ((with_reducible refine gate_dst (N := 2) rfl ?_); (try (refine gate_guard (by rfl) ?_; dsimp only)); refine box_event ?hg (N := 2) ?hd (cs := #[.int .i64 a0_0, .int .i64 a0_1, .slice A0_2 l0_2.length c0_2]) (t := 28) ?hr ?_; (case hd => rfl); (case hg => rfl); (case hr => first | (go_simp; done) | (go_simp; rfl)); intro gb117 hg w7 hbox hb; have n0_ := Aside0.mk (below_step (by repeat (first | (with_reducible first | exact HB.out | apply below_alloc | apply pw_below_drewN | apply below_drew1) | exact HB.out)) hb); have n1_ := Aside0.mk (hbox); have n2_ := Aside0.mk ((by rw [hg]; exact (below_size (by repeat (first | (with_reducible first | exact HB.out | apply below_alloc | apply pw_below_drewN | apply below_drew1) | exact HB.out))) : w.heap.size ≤ gb117)); have n3_ := Aside0.mk ((by rw [hg]; exact (below_size (by repeat (first | (with_reducible first | exact HB.out | apply below_alloc | apply pw_below_drewN | apply below_drew1) | exact HB.out))) : w.heap.size ≤ gb117)); clear HB; have HB := n0_; have BK117 := n1_; have GW117 := n2_; have GE117 := n3_; clear n0_ n1_ n2_ n3_; clear hb hbox hg; have hcz8_0 : w7.cell? ⟨gb117, 0, none⟩ = some (.int .i64 a0_0) := (blk_cell BK117.out 0).trans rfl; have hcz8_1 : w7.cell? ⟨gb117, 1, none⟩ = some (.int .i64 a0_1) := (blk_cell BK117.out 1).trans rfl; have hcz8_2 : w7.cell? ⟨gb117, 2, none⟩ = some (.slice A0_2 l0_2.length c0_2) := (blk_cell BK117.out 2).trans rfl; have hfz8_0 := blk_frozen BK117.out 0; have hfz8_1 := blk_frozen BK117.out 1; have hfz8_2 := blk_frozen BK117.out 2) | ((with_reducible refine gate_callee (f := 34) rfl ?_); refine goesL_ (some 6) rfl rfl Try.func34 (by kernel_rfl) rfl #[.agg #[.int .i64 a0_0, .int .i64 a0_1, .slice A0_2 l0_2.length c0_2]] rfl (by (try simp only [List.map_toArray, List.map_cons, List.map_nil]); first | done | rfl | (simp only [List.length_drop, List.length_take]; rfl)) ?_; (with_reducible refine (spec_HullOk.calls k a0_0 a0_1 _ _ l0_2 true _ ?side1 ?side2 A3.out).mono ?_); (case side1 => repeat (first | exact (Kd.C_below HR0_2.out HB.out) | (with_reducible refine Kd.C_alloc ?_ _) | (with_reducible refine Kd.C_drewN ?_ _) | (with_reducible refine Kd.C_drew ?_))); (case side2 => exact HC0_2.out); rintro e w9 ⟨rfl, hb⟩; refine ⟨_, rfl, ?_⟩; have n0_ := Aside0.mk (blk_below (g := gb117) (o := .cells #[.int .i64 a0_0, .int .i64 a0_1, .slice A0_2 l0_2.length c0_2] 28 (0, 0)) (by (with_reducible repeat (first | refine blk_drewN ?_ _ | refine blk_drew ?_ | refine blk_alloc ?_ _)); exact BK117.out) hb); have n1_ := Aside0.mk (below_step (by repeat (first | (with_reducible first | exact HB.out | apply below_alloc | apply pw_below_drewN | apply below_drew1 | refine below_set ?_ GE117.out) | exact HB.out)) hb); clear BK117; clear HB; have BK117 := n0_; have HB := n1_; clear n0_ n1_; (try clear hb); (try clear hb2); (try clear hk); (try clear hi); have hcz10_0 : w9.cell? ⟨gb117, 0, none⟩ = some (.int .i64 a0_0) := (blk_cell BK117.out 0).trans rfl; have hcz10_1 : w9.cell? ⟨gb117, 1, none⟩ = some (.int .i64 a0_1) := (blk_cell BK117.out 1).trans rfl; have hcz10_2 : w9.cell? ⟨gb117, 2, none⟩ = some (.slice A0_2 l0_2.length c0_2) := (blk_cell BK117.out 2).trans rfl; have hfz10_0 := blk_frozen BK117.out 0; have hfz10_1 := blk_frozen BK117.out 1; have hfz10_2 := blk_frozen BK117.out 2; have p119 : 0 ≤ (0 : Int) := (by omega); have q119 : 0 < (l0_2.length : Int) := of_decide_eq_true (by first | (with_reducible assumption) | assumption); obtain ⟨ad119, A119_0, c119_0, e119, hx119_0, hl119_0, hi119_0⟩ := at_L1 HR0_2.out 0 p119 q119; cases e119; have qi119 : (0 < l0_2.length) = True := eq_true (by omega); (try rw [show ((0 : Int)).toNat = 0 from rfl] at hx119_0); (try rw [Addr.add_zero'] at hx119_0); replace hx119_0 := (HB.out.cell (World.block_lt_of_cell? w _ hx119_0)).trans hx119_0; have HR119_0 := Aside0.mk hi119_0; have HC119_0 := Aside0.mk hl119_0; clear hi119_0 hl119_0; replace p119 := eq_true p119; replace q119 := eq_true q119) | (go_at_call 28; (with_reducible refine (spec_l1In.calls a1 0 (wrap64 (((rd_L1 l0_2 0).length : Int) - 1)) t120 _ A6.out).mono ?_); rintro e w' ⟨rfl, ⟨nd, rfl⟩⟩))
      go_ret
      exact ⟨by first | rfl | (simp [errW_none, errW_some] <;> rfl) | (simp [*, errW_none, errW_some] <;> rfl), by repeat (first | (with_reducible first | exact HB.out | apply below_alloc | apply pw_below_drewN | apply below_drew1 | refine below_set ?_ GE117.out) | exact HB.out)⟩
    · rw [if_neg c5] at H
      exact absurd H (by simp)
  · replace c4 := Bool.eq_false_iff.mpr c4
    subst c4
    have H1 : (some false) = some r := by rw [if_neg (show ¬ (false = true) by decide)] at H; exact H
    clear H
    have H := H1
    clear H1
    obtain rfl := Option.some.inj H
    go_enter Try.func21, Try.ntmps21
    go_wp2_with (first | ((with_reducible refine gate_dst (N := 2) rfl ?_); (try (refine gate_guard (by rfl) ?_; dsimp only)); refine box_event ?hg (N := 2) ?hd (cs := #[.int .i64 a0_0, .int .i64 a0_1, .slice A0_2 l0_2.length c0_2]) (t := 28) ?hr ?_; (case hd => rfl); (case hg => rfl); (case hr => first | (go_simp; done) | (go_simp; rfl)); intro gb117 hg w11 hbox hb; have n0_ := Aside0.mk (below_step (by repeat (first | (with_reducible first | exact HB.out | apply below_alloc | apply pw_below_drewN | apply below_drew1) | exact HB.out)) hb); have n1_ := Aside0.mk (hbox); have n2_ := Aside0.mk ((by rw [hg]; exact (below_size (by repeat (first | (with_reducible first | exact HB.out | apply below_alloc | apply pw_below_drewN | apply below_drew1) | exact HB.out))) : w.heap.size ≤ gb117)); have n3_ := Aside0.mk ((by rw [hg]; exact (below_size (by repeat (first | (with_reducible first | exact HB.out | apply below_alloc | apply pw_below_drewN | apply below_drew1) | exact HB.out))) : w.heap.size ≤ gb117)); clear HB; have HB := n0_; have BK117 := n1_; have GW117 := n2_; have GE117 := n3_; clear n0_ n1_ n2_ n3_; clear hb hbox hg; have hcz12_0 : w11.cell? ⟨gb117, 0, none⟩ = some (.int .i64 a0_0) := (blk_cell BK117.out 0).trans rfl; have hcz12_1 : w11.cell? ⟨gb117, 1, none⟩ = some (.int .i64 a0_1) := (blk_cell BK117.out 1).trans rfl; have hcz12_2 : w11.cell? ⟨gb117, 2, none⟩ = some (.slice A0_2 l0_2.length c0_2) := (blk_cell BK117.out 2).trans rfl; have hfz12_0 := blk_frozen BK117.out 0; have hfz12_1 := blk_frozen BK117.out 1; have hfz12_2 := blk_frozen BK117.out 2) | ((with_reducible refine gate_callee (f := 34) rfl ?_); refine goesL_ (some 6) rfl rfl Try.func34 (by kernel_rfl) rfl #[.agg #[.int .i64 a0_0, .int .i64 a0_1, .slice A0_2 l0_2.length c0_2]] rfl (by (try simp only [List.map_toArray, List.map_cons, List.map_nil]); first | done | rfl | (simp only [List.length_drop, List.length_take]; rfl)) ?_; (with_reducible refine (spec_HullOk.calls k a0_0 a0_1 _ _ l0_2 false _ ?side1 ?side2 A3.out).mono ?_); (case side1 => repeat (first | exact (Kd.C_below HR0_2.out HB.out) | (with_reducible refine Kd.C_alloc ?_ _) | (with_reducible refine Kd.C_drewN ?_ _) | (with_reducible refine Kd.C_drew ?_))); (case side2 => exact HC0_2.out); rintro e w13 ⟨rfl, hb⟩; refine ⟨_, rfl, ?_⟩; have n0_ := Aside0.mk (blk_below (g := gb117) (o := .cells #[.int .i64 a0_0, .int .i64 a0_1, .slice A0_2 l0_2.length c0_2] 28 (0, 0)) (by (with_reducible repeat (first | refine blk_drewN ?_ _ | refine blk_drew ?_ | refine blk_alloc ?_ _)); exact BK117.out) hb); have n1_ := Aside0.mk (below_step (by repeat (first | (with_reducible first | exact HB.out | apply below_alloc | apply pw_below_drewN | apply below_drew1 | refine below_set ?_ GE117.out) | exact HB.out)) hb); clear BK117; clear HB; have BK117 := n0_; have HB := n1_; clear n0_ n1_; (try clear hb); (try clear hb2); (try clear hk); (try clear hi)))
    go_ret
    exact ⟨by first | rfl | (simp [errW_none, errW_some] <;> rfl) | (simp [*, errW_none, errW_some] <;> rfl), by repeat (first | (with_reducible first | exact HB.out | apply below_alloc | apply pw_below_drewN | apply below_drew1 | refine below_set ?_ GE117.out) | exact HB.out)⟩

end Go.Proofs.Ytbjpdelammffpaa.PH1
