/- The plain part for rooms: copies, equality, the reference's check, the law. -/
import Derived.Test.YteggnboikjjaiaaHp
import Derived.Test.YteggnboikjjaiaaMs
import Derived.Test.YteggnboikjjaiaaRm
import Derived.Test.YteggnboikjjaiaaPH3x10
import Derived.Test.YteggnboikjjaiaaPH3x11
import Derived.Test.YteggnboikjjaiaaPH3x12
import Derived.Test.YteggnboikjjaiaaPH3x13
import Derived.Test.YteggnboikjjaiaaPH3x14
import Derived.Test.YteggnboikjjaiaaPH3x15
import Derived.Test.YteggnboikjjaiaaPH3x21
import Derived.Test.YteggnboikjjaiaaPH3x22
import Derived.Test.YteggnboikjjaiaaPH3x23
import Derived.Test.YteggnboikjjaiaaPH3x24
import Derived.Test.YteggnboikjjaiaaPH3x3
import Derived.Test.YteggnboikjjaiaaPH3x6
import Derived.Test.YteggnboikjjaiaaPH3x9
namespace Go.Proofs.Yteggnboikjjaiaa.Rp
open Go.RowKit Go.Proofs.Yteggnboikjjaiaa.PH3 Go.Proofs.YteggnboikjjaiaaW.PrintWords Go.Proofs.Yteggnboikjjaiaa.Hp Go.Proofs.Yteggnboikjjaiaa.Cf Go.Proofs.Yteggnboikjjaiaa.Rm Go.Proofs.Yteggnboikjjaiaa.Pl
set_option linter.unusedVariables false
set_option linter.unusedSimpArgs false

def cvRoom (x : S86) : S84 := ⟨x.f0, x.f1, x.f2⟩
theorem rdlRoom (l : List S86) (i : Nat) (h : i < l.length) : rd_T86 l (i : Int) = l[i] := by simp [rd_T86, h]
theorem rdsRoom (l : List S84) (i : Nat) (h : i < l.length) : rd_T84 l (i : Int) = l[i] := by simp [rd_T84, h]
theorem toRoom_loop (l : List S86) (hn : l.length ≤ 9223372036854775807) (d : Nat) : ∀ (i : Nat) (xs : List S84), xs.length = l.length → i + d = l.length → xs.take i = (l.map cvRoom).take i → Ev (fun k => laws_toRoomS.l0 k l xs i) (l.map cvRoom) := by
  induction d with
  | zero =>
    intro i xs hl hd ht
    refine Ev.ret fun k => ?_
    simp only [laws_toRoomS.l0]
    rw [if_neg (by omega)]
    rw [List.take_of_length_le (by omega), List.take_of_length_le (by simp; omega)] at ht
    exact congrArg some ht
  | succ d ih =>
    intro i xs hl hd ht
    have hi : i < l.length := by omega
    refine Ev.step (f := fun k => laws_toRoomS.l0 k l (xs.set i (cvRoom l[i])) ((i + 1 : Nat) : Int)) (fun k => ?_) (ih (i + 1) (xs.set i (cvRoom l[i])) (by simpa using hl) (by omega) ?_)
    · simp only [laws_toRoomS.l0]
      rw [if_pos (by omega), if_pos (by omega)]
      simp only [laws_toRoom.f, Option.bind_some]
      rw [if_pos (by omega), wk (n := l.length) (by omega) hn, Int.toNat_natCast, rdlRoom l i hi]
      rfl
    · rw [List.take_succ_eq_append_getElem (by simp; omega), List.take_succ_eq_append_getElem (by simp; omega)]
      congr 1
      · rw [List.take_set_of_le (Nat.le_refl i)]; exact ht
      · simp
theorem toRoomS (l : List S86) (hn : l.length ≤ 1048576) : Ev (fun k => laws_toRoomS.f k l) (l.map cvRoom) := by
  refine Ev.congr (f := fun k => laws_toRoomS.l0 k l (List.replicate l.length z84) ((0 : Nat) : Int)) (fun k => ?_) (toRoom_loop l (by omega) l.length 0 _ (by simp) (by omega) (by simp))
  unfold laws_toRoomS.f
  rw [if_pos (by omega), if_pos (by simp; omega), Int.toNat_natCast]
  rfl
theorem eqRoom_loop (l : List S84) (hn : l.length ≤ 9223372036854775807) (d : Nat) : ∀ (i : Nat), i + d = l.length → Ev (fun k => laws_eqRoomS.l0 k l l i) true := by
  induction d with
  | zero =>
    intro i hd
    refine Ev.ret fun k => ?_
    simp only [laws_eqRoomS.l0]
    rw [if_neg (by omega)]
  | succ d ih =>
    intro i hd
    refine Ev.step (f := fun k => laws_eqRoomS.l0 k l l ((i + 1 : Nat) : Int)) (fun k => ?_) (ih (i + 1) (by omega))
    simp only [laws_eqRoomS.l0]
    rw [if_pos (by omega), if_pos (by omega), if_pos (by omega)]
    simp only [laws_eqRoom.f, if_true, Option.bind_some]
    rw [wk (n := l.length) (by omega) hn]
theorem eqRoomS (l : List S84) (hn : l.length ≤ 9223372036854775807) : Ev (fun k => laws_eqRoomS.f k l l) true := by
  refine Ev.congr (f := fun k => laws_eqRoomS.l0 k l l ((0 : Nat) : Int)) (fun k => ?_) (eqRoom_loop l hn l.length 0 (by omega))
  unfold laws_eqRoomS.f
  rw [if_pos rfl]
  rfl
theorem szRoomS (l : List S86) (m : Int) (h0 : 0 ≤ m) (h1 : m ≤ 1048576) (hn : l.length ≤ 9223372036854775807) : laws_szRoomS.f l m = some (szOf l.length m) := by
  unfold laws_szRoomS.f szOf
  have e : wrap64 (m - (l.length : Int)) = m - l.length := by unfold wrap64; omega
  rw [e]
  by_cases h : (l.length : Int) ≤ m
  · rw [if_pos h, if_neg (by omega)]
  · rw [if_neg h, if_pos (by omega)]

theorem w64 (x : Int) (h0 : -9223372036854775808 ≤ x) (h1 : x < 9223372036854775808) : wrap64 x = x := by
  unfold wrap64
  omega
theorem okRoom_eq (n a b p : Int) : okRoom n a b p = (decide (0 ≤ a ∧ a ≤ n - 1) && decide (a ≤ b ∧ b ≤ n - 1) && decide (0 ≤ p ∧ p ≤ 100)) := by
  unfold okRoom
  rw [Bool.eq_iff_iff]
  simp only [Bool.and_eq_true, decide_eq_true_eq]
  omega
abbrev RM := S84
abbrev tr (l : List RM) : List (Int × Int × Int) := triples (fun x : RM => x.f0) (fun x => x.f1) (fun x => x.f2) l
abbrev pr (l : List RM) : List (Int × Int) := pairs (fun x : RM => x.f0) (fun x => x.f1) l
theorem rooms_inner (zs : List RM) (hn : zs.length ≤ 9223372036854775807) (s r : Int) (l : List (List Int)) (i : Nat) (hi : i < zs.length) (a b p : Int) (v : Bool) (hv : Ev (fun k => spec_RoomsOk.l0 k zs ((i + 1 : Nat) : Int) s r l) v) (d : Nat) :
    ∀ kk : Nat, kk + d = i → Ev (fun k => spec_RoomsOk.l1 k zs i kk s r l a b p) (!(meets (((pr zs).take i).drop kk) a b) && v) := by
  have hq : ((pr zs).take i).length = i := by simp [pr, pairs]; omega
  induction d with
  | zero =>
    intro kk hd
    rw [List.drop_of_length_le (by omega)]
    refine Ev.step (f := fun k => spec_RoomsOk.l0 k zs ((i + 1 : Nat) : Int) s r l) (fun k => ?_) (by simpa [meets] using hv)
    simp only [spec_RoomsOk.l1]
    rw [if_neg (by omega), wk (n := zs.length) (by omega) hn]
  | succ d ih =>
    intro kk hd
    have hk : kk < zs.length := by omega
    have hk2 : kk < ((pr zs).take i).length := by omega
    rw [drop_at _ kk hk2]
    have e : ((pr zs).take i)[kk] = (zs[kk].f0, zs[kk].f1) := by simp [pr, pairs]
    rw [e]
    have em : meets ((zs[kk].f0, zs[kk].f1) :: ((pr zs).take i).drop (kk + 1)) a b = ((decide (zs[kk].f0 ≤ b) && decide (a ≤ zs[kk].f1)) || meets (((pr zs).take i).drop (kk + 1)) a b) := rfl
    rw [em]
    by_cases g1 : a ≤ zs[kk].f1
    · by_cases g2 : zs[kk].f0 ≤ b
      · refine Ev.ret fun k => ?_
        simp only [spec_RoomsOk.l1]
        rw [if_pos (by omega), if_pos (by omega), if_pos (by omega), rdsRoom zs kk hk, if_pos g1, if_pos g2]
        simp [g1, g2]
      · refine Ev.step (f := fun k => spec_RoomsOk.l1 k zs i ((kk + 1 : Nat) : Int) s r l a b p) (fun k => ?_) ?_
        · simp only [spec_RoomsOk.l1]
          rw [if_pos (by omega), if_pos (by omega), if_pos (by omega), rdsRoom zs kk hk, if_pos g1, if_neg g2, wk (n := zs.length) (by omega) hn]
        · have : (decide (zs[kk].f0 ≤ b) && decide (a ≤ zs[kk].f1)) = false := by simp [g2]
          rw [this, Bool.false_or]
          exact ih (kk + 1) (by omega)
    · refine Ev.step (f := fun k => spec_RoomsOk.l1 k zs i ((kk + 1 : Nat) : Int) s r l a b p) (fun k => ?_) ?_
      · simp only [spec_RoomsOk.l1]
        rw [if_pos (by omega), if_pos (by omega), if_pos (by omega), rdsRoom zs kk hk, if_neg g1, wk (n := zs.length) (by omega) hn]
      · have : (decide (zs[kk].f0 ≤ b) && decide (a ≤ zs[kk].f1)) = false := by simp [g1]
        rw [this, Bool.false_or]
        exact ih (kk + 1) (by omega)
theorem rooms_outer (zs : List RM) (hn : zs.length ≤ 9223372036854775807) (s r : Int) (l : List (List Int)) (hl : l.length ≤ 12) (d : Nat) :
    ∀ i : Nat, i + d = zs.length → Ev (fun k => spec_RoomsOk.l0 k zs i s r l) (roomsFrom l.length ((pr zs).take i) ((tr zs).drop i)) := by
  have hw : wrap64 ((l.length : Int) - 1) = (l.length : Int) - 1 := w64 _ (by omega) (by omega)
  induction d with
  | zero =>
    intro i hd
    refine Ev.ret fun k => ?_
    simp only [spec_RoomsOk.l0]
    rw [if_neg (by omega), List.drop_of_length_le (by simp [tr, triples]; omega)]
    rfl
  | succ d ih =>
    intro i hd
    have hi : i < zs.length := by omega
    obtain ⟨x, hx⟩ : ∃ x, x = zs[i] := ⟨_, rfl⟩
    have e0 : (tr zs).drop i = (x.f0, x.f1, x.f2) :: (tr zs).drop (i + 1) := by
      have : i < (tr zs).length := by simp [tr, triples]; exact hi
      rw [List.drop_eq_getElem_cons this, hx]
      simp [tr, triples]
    have e1 : (pr zs).take (i + 1) = (pr zs).take i ++ [(x.f0, x.f1)] := by
      have : i < (pr zs).length := by simp [pr, pairs]; exact hi
      rw [List.take_succ_eq_append_getElem this, hx]
      simp [pr, pairs]
    have hv := ih (i + 1) (by omega)
    have hrd := rdsRoom zs i hi
    rw [← hx] at hrd
    rw [e1] at hv
    rw [e0]
    simp only [roomsFrom]
    have st : ∀ k, spec_RoomsOk.l0 (k + 1) zs i s r l = spec_RoomsOk.j2 k zs i (!(okRoom l.length x.f0 x.f1 x.f2)) s r l x.f0 x.f1 x.f2 := fun k => by
      simp only [spec_RoomsOk.l0]
      rw [if_pos (by omega), if_pos (by omega), hrd, hw, okRoom_eq]
      unfold spec_l1In.f
      simp only [Option.bind_some]
      generalize decide (0 ≤ x.f0 ∧ x.f0 ≤ (l.length : Int) - 1) = c0
      generalize decide (x.f0 ≤ x.f1 ∧ x.f1 ≤ (l.length : Int) - 1) = c1
      generalize decide (0 ≤ x.f2 ∧ x.f2 ≤ 100) = c2
      cases c0 <;> cases c1 <;> simp
    refine Ev.step st ?_
    cases ho : okRoom l.length x.f0 x.f1 x.f2
    · refine Ev.ret fun k => ?_
      simp only [spec_RoomsOk.j2]
      rfl
    · have := rooms_inner zs hn s r l i hi x.f0 x.f1 x.f2 _ hv i 0 (by omega)
      rw [List.drop_zero] at this
      refine Ev.step (f := fun k => spec_RoomsOk.l1 k zs i ((0 : Nat) : Int) s r l x.f0 x.f1 x.f2) (fun k => ?_) this
      simp only [spec_RoomsOk.j2]
      rfl
def roomsB (s r : Int) (l : List (List Int)) (zs : List RM) : Bool := okHull s r l && (decide ((zs.length : Int) ≤ 8) && roomsFrom l.length [] (tr zs))
theorem rooms_spec (s r : Int) (l : List (List Int)) (zs : List RM) (hn : zs.length ≤ 9223372036854775807) : Ev (fun k => spec_RoomsOk.f k s r l zs) (roomsB s r l zs) := by
  unfold spec_RoomsOk.f spec_HullOk.f roomsB
  simp only [Option.bind_some]
  have no : Ev (fun k => spec_RoomsOk.j0 k zs true s r l) false := Ev.ret fun k => by simp only [spec_RoomsOk.j0, if_true]
  cases ho : okHull s r l
  · exact no
  · simp only [if_true, Bool.true_and]
    by_cases h8 : (zs.length : Int) ≤ 8
    · have d8 : decide ((zs.length : Int) > 8) = false := decide_eq_false (by omega)
      rw [d8, decide_eq_true h8, Bool.true_and]
      have := rooms_outer zs hn s r l (okHull_len ho).1.2 zs.length 0 (by omega)
      rw [List.drop_zero, List.take_zero] at this
      refine Ev.step (f := fun k => spec_RoomsOk.l0 k zs ((0 : Nat) : Int) s r l) (fun k => ?_) this
      simp only [spec_RoomsOk.j0]
      rfl
    · have d8 : decide ((zs.length : Int) > 8) = true := decide_eq_true (by omega)
      rw [d8, decide_eq_false h8, Bool.false_and]
      exact no
end Go.Proofs.Yteggnboikjjaiaa.Rp
namespace Go.Proofs.Yteggnboikjjaiaa.Pure
open Go.RowKit Go.Proofs.Yteggnboikjjaiaa.PH3 Go.Proofs.YteggnboikjjaiaaW.PrintWords Go.Proofs.Yteggnboikjjaiaa.Hp Go.Proofs.Yteggnboikjjaiaa.Rp
theorem FnExactRoomsOk : ∀ (a0_0 : Int) (a0_1 : Int) (l0_2 : List (List Int)) (l1 : List (S86)), l1.length ≤ maxLen → ∃ k, laws_FnExactRoomsOk.f k a0_0 a0_1 l0_2 l1 = some true := by
  intro s r l zs hn
  have hm : maxLen = 9223372036854775807 := rfl
  refine Ev.rounds (g := fun k => laws_FnExactRoomsOk.f k s r l zs) ?_
  unfold laws_FnExactRoomsOk.f
  by_cases hs : sizeH l ≤ 1048576
  · have e1 : laws_szHull.f s r l 1048576 = some (1048576 - (sizeH l : Int)) := by
      unfold laws_szHull.f szOf
      rw [if_pos (by omega), if_pos (by omega)]
    have e2 : laws_toHull.f s r l = some (s, r, l) := by unfold laws_toHull.f; rw [if_pos hs]
    have e3 : laws_eqHull.f s r l s r l = some true := by unfold laws_eqHull.f; rw [if_pos ⟨rfl, rfl, rfl, hs⟩]
    rw [e1]
    simp only [Option.bind_some]
    have n1 : ¬ (1048576 - (sizeH l : Int) < 0) := by omega
    simp only [n1, if_false]
    rw [szRoomS zs _ (by omega) (by omega) (by omega)]
    simp only [Option.bind_some]
    unfold szOf
    by_cases h : (zs.length : Int) ≤ 1048576 - (sizeH l : Int)
    · have hl : zs.length ≤ 1048576 := by omega
      have hl2 : (zs.map cvRoom).length ≤ 9223372036854775807 := by rw [List.length_map]; omega
      refine Ev.congr (fun k => by rw [if_pos h, if_neg (by omega), e2]) ?_
      simp only [Option.bind_some, e3, if_true]
      refine Ev.bind (toRoomS zs hl) (Ev.bind (rooms_spec s r l _ hl2) (Ev.bind (toRoomS zs hl) ?_))
      have e4 : impl_RoomsOk.f s r l (zs.map cvRoom) = some (roomsB s r l (zs.map cvRoom)) := rfl
      rw [e4]
      simp only [Option.bind_some, bne_self_eq_false, Bool.false_eq_true, if_false]
      exact Ev.bind (toRoomS zs hl) (Ev.bind (eqRoomS _ hl2) (Ev.const fun _ => by rw [if_pos rfl]))
    · exact Ev.const fun k => by rw [if_neg h, if_pos (by omega)]
  · refine Ev.const fun k => ?_
    have e1 : laws_szHull.f s r l 1048576 = some (-1) := by
      unfold laws_szHull.f szOf
      rw [if_pos (by omega), if_neg (by omega)]
    rw [e1]
    simp
end Go.Proofs.Yteggnboikjjaiaa.Pure
