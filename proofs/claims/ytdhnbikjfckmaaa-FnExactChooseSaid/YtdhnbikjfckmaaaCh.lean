/- Choose of the program: the slots that are free, in closed form. -/
import Derived.Test.YtdhnbikjfckmaaaCf
import Derived.Test.YtdhnbikjfckmaaaWMore
import Derived.Test.YtdhnbikjfckmaaaWSized
namespace Go.Proofs.Ytdhnbikjfckmaaa.Ch
open Go Go.RowKit Go.Lib Go.Proofs.YtdhnbikjfckmaaaW.PrintWords Go.Proofs.YtdhnbikjfckmaaaW.PrintLast Go.Proofs.YtdhnbikjfckmaaaW.PrintMore Go.Proofs.Ytdhnbikjfckmaaa.Cf
set_option linter.unusedVariables false
set_option linter.unusedSimpArgs false

/-- A rule p that function g, bound to lb, answers by for the elements of a list, in every later world. -/
def AnswersIn (g : Nat) (lb : Array Value) (zs : List Int) (p : Int → Bool) (w : World) : Prop :=
  ∀ (W : World) (x : Int), x ∈ zs → Below w.heap.size w W → Calls Try.prog g (#[Value.int .i64 x] ++ lb) W fun e w' => e = .returned (.bool (p x)) ∧ Below W.heap.size W w'
set_option maxHeartbeats 2000000 in
theorem indexFuncIn (p : Int → Bool) (g : Nat) (lb : Array Value) (eg : ∀ args w, (callFunc g args).run Try.prog w = .ok (.enter g args) w) (A : Option Addr) (c : Nat) (zs : List Int) (w : World)
    (hp : AnswersIn g lb zs p w) (hr : Kd.C (Kd.int .i64) w A zs.length zs) :
    Calls Try.prog 60 #[.slice A zs.length c, .func (.func g) #[] lb] w fun e w' => e = .returned (.int .i64 (Lib.idxBy (fun _ y => p y) zs (0 : Int))) ∧ Below w.heap.size w w' := by
  have hbig : zs.length ≤ 9223372036854775807 := hr.2.1
  have hrow : ∀ (W : World), Below w.heap.size w W → ∀ j : Nat, j < zs.length → ∃ ad, A = some ad ∧ W.cell? (ad.add j) = some (.int .i64 zs[j]!) := fun W hW j hj => by
    obtain ⟨ad, cs, e, hl, hk, hcell⟩ := Kd.C_get hr (0 : Int) (j : Int) (by omega) (by omega)
    obtain rfl : cs = [Value.int .i64 (zs.getD (j : Int).toNat 0)] := hk
    have h0 := hcell 0 _ rfl
    refine ⟨ad, e, ?_⟩
    have e2 : zs.getD (j : Int).toNat 0 = zs[j]! := by simp [List.getD_eq_getElem?_getD, hj]
    rw [e2] at h0
    have e3 : (j : Int).toNat * Kd.sz (Kd.int .i64) + 0 = j := by simp [Kd.int, Kd.scalar]
    rw [e3] at h0
    exact pw_cell_below hW h0
  have HROW := Aside0.mk hrow
  have HP := Aside0.mk hp
  clear hr hrow hp
  go_enter Try.func60, Try.ntmps60
  go_wp2
  go_loopg [5, 8] zs.length (fun gg _ s8 wr => ∃ kk : Nat, kk ≤ zs.length ∧ zs.length - kk ≤ gg ∧ s8 = .int .i64 kk ∧ Aside0 (Below w.heap.size w wr) ∧ Aside0 (∀ j, j < kk → p zs[j]! = false))
  case atStart => exact ⟨0, Nat.zero_le _, by omega, rfl, ⟨Below.refl _ w⟩, ⟨fun j hj => absurd hj (Nat.not_lt_zero _)⟩⟩
  case round =>
    obtain ⟨kk, hkk, hg, rfl, BW, AA⟩ := hrel
    by_cases hlt : kk < zs.length
    · have hltz : (kk : Int) < (zs.length : Int) := by omega
      obtain ⟨ad, rfl, l2⟩ := HROW.out wr BW.out kk (by omega)
      have hcall := HP.out wr zs[kk]! (by rw [getElem!_pos zs kk hlt]; exact List.getElem_mem hlt) BW.out
      clear HROW HP
      generalize hy : zs[kk]! = y at l2 hcall
      have B := Aside0.mk hy
      clear hy
      cases hq : p y with
      | true =>
        rw [hq] at hcall
        go_wp2_with fail
        refine hcall.mono ?_
        rintro e w' ⟨rfl, hb'⟩
        go_wp2
        go_ret
        refine ⟨?_, BW.out.trans (hb'.mono BW.out.size)⟩
        have := Lib.idxBy_hit (fun _ y => p y) zs zs.length kk (0 : Int) hlt (Nat.le_refl _) (by show p zs[kk]! = true; rw [B.out]; exact hq) AA.out
        rw [List.take_length] at this
        rw [this]
        rfl
      | false =>
        rw [hq] at hcall
        go_wp2_with fail
        refine hcall.mono ?_
        rintro e w' ⟨rfl, hb'⟩
        go_wp2
        go_roundg (zs.length - (kk + 1))
        case measure => omega
        case rel =>
          refine ⟨kk + 1, by omega, by omega, by go_num, ⟨BW.out.trans (hb'.mono BW.out.size)⟩, ⟨fun j hj => ?_⟩⟩
          by_cases e : j = kk
          · subst e
            rw [B.out]; exact hq
          · exact AA.out j (by omega)
    · have hltz : ¬ (kk : Int) < (zs.length : Int) := by omega
      have hk : kk = zs.length := by omega
      clear HROW HP
      have AA2 := AA.out
      have hkz : (kk : Int) = (zs.length : Int) := by omega
      subst hk
      go_wp2
      go_ret
      refine ⟨?_, BW.out⟩
      have := Lib.idxBy_miss (fun _ y => p y) zs zs.length (0 : Int) AA2
      rw [List.take_length] at this
      rw [this]
      rfl
set_option maxHeartbeats 1000000 in
theorem containsFuncIn (p : Int → Bool) (g : Nat) (lb : Array Value) (eg : ∀ args w, (callFunc g args).run Try.prog w = .ok (.enter g args) w) (A : Option Addr) (c : Nat) (zs : List Int) (w : World)
    (hp : AnswersIn g lb zs p w) (hr : Kd.C (Kd.int .i64) w A zs.length zs) :
    Calls Try.prog 54 #[.slice A zs.length c, .func (.func g) #[] lb] w fun e w' => e = .returned (.bool (zs.any p)) ∧ Below w.heap.size w w' := by
  have e1 : zs.any p = decide (0 ≤ Lib.idxBy (fun _ y => p y) zs (0 : Int)) := (Lib.idxBy_nonneg_iff (fun _ y => p y) zs (0 : Int)).symm
  rw [e1]
  go_enter Try.func54, Try.ntmps54
  go_wp2_with (go_at_call 60; refine (indexFuncIn p g lb eg A c zs _ hp hr).mono ?_; rintro e w' ⟨rfl, hb⟩)
  go_ret
  exact ⟨rfl, hb⟩

/-! ### Radios -/
structure Radios {α : Type} [Inhabited α] (f1 : α → Int) (f2 : α → List Int) (A : Option Addr) (zs : List α) (w : World) : Prop where
  mk ::
  out : ∀ j, j < zs.length → ∃ ad A2 c2, A = some ad ∧ w.cell? ⟨(ad.add (j * 3)).block, (ad.add (j * 3)).off + 1, none⟩ = some (.int .i64 (f1 zs[j]!)) ∧ w.cell? ⟨(ad.add (j * 3)).block, (ad.add (j * 3)).off + 2, none⟩ = some (.slice A2 (f2 zs[j]!).length c2) ∧ (f2 zs[j]!).length ≤ c2 ∧ Kd.C (Kd.int .i64) w A2 (f2 zs[j]!).length (f2 zs[j]!)
theorem Radios.below {α : Type} [Inhabited α] {f1 : α → Int} {f2 : α → List Int} {A : Option Addr} {zs : List α} {w w1 : World} (h : Radios f1 f2 A zs w) (hb : Below w.heap.size w w1) : Radios f1 f2 A zs w1 :=
  ⟨fun j hj => by
    obtain ⟨ad, A2, c2, e, h1, h2, h3, h4⟩ := h.out j hj
    exact ⟨ad, A2, c2, e, pw_cell_below hb h1, pw_cell_below hb h2, h3, Kd.C_below h4 hb⟩⟩
def takenB {α : Type} [Inhabited α] (f1 : α → Int) (zs : List α) (s : Int) (h : Int) : Bool := f1 zs[h.toNat]! == s
theorem clo_any {α : Type} [Inhabited α] (f1 : α → Int) (f2 : α → List Int) (A : Option Addr) (c : Nat) (zs : List α) (s : Int) (hs : List Int) (B1 B2 : Nat) (w : World) (h1 : B1 < w.heap.size) (h2 : B2 < w.heap.size) (c1 : w.cell? ⟨B1, 0, none⟩ = some (.slice A zs.length c)) (c2 : w.cell? ⟨B2, 0, none⟩ = some (.int .i64 s))
    (hr : Radios f1 f2 A zs w) (hv : ∀ h ∈ hs, 0 ≤ h ∧ h < (zs.length : Int)) :
    AnswersIn 55 #[.pointer (some ⟨B1, 0, none⟩), .pointer (some ⟨B2, 0, none⟩)] hs (takenB f1 zs s) w := fun W x hx hb => by
  have d1 : W.cell? ⟨B1, 0, none⟩ = some (.slice A zs.length c) := (hb.cell (p := ⟨B1, 0, none⟩) h1).trans c1
  have d2 : W.cell? ⟨B2, 0, none⟩ = some (.int .i64 s) := (hb.cell (p := ⟨B2, 0, none⟩) h2).trans c2
  have hx0 := (hv x hx).1
  have hx1 := (hv x hx).2
  obtain ⟨ad, A2, cc, rfl, e1, _⟩ := (hr.below hb).out x.toNat (by omega)
  obtain ⟨X, rfl⟩ : ∃ X : Nat, x = (X : Int) := ⟨x.toNat, by omega⟩
  unfold takenB
  rw [Int.toNat_natCast] at e1
  rw [Int.toNat_natCast]
  have hX : X < zs.length := by omega
  clear c1 c2 hb hr hv hx hx0 hx1
  generalize f1 zs[X]! = y at e1 ⊢
  show Calls Try.prog 55 #[.int .i64 (X : Int), .pointer (some ⟨B1, 0, none⟩), .pointer (some ⟨B2, 0, none⟩)] W _
  have hX2 : (X : Int) < (zs.length : Int) := by omega
  go_enter Try.func55, Try.ntmps55
  go_wp2
  go_quiet (fail)
  go_wp2
  go_ret
  exact ⟨rfl, by first | exact Below.refl _ _ | (apply pw_below_drewN; exact Below.refl _ _)⟩
/-! ### Choose -/
def freeTo {α : Type} [Inhabited α] (f1 : α → Int) (zs : List α) (hs : List Int) (n : Nat) : List Int := ((List.range n).map fun i : Nat => (i : Int)).filter fun s => !(hs.any (takenB f1 zs s))
theorem freeTo_succ {α : Type} [Inhabited α] (f1 : α → Int) (zs : List α) (hs : List Int) (n : Nat) : freeTo f1 zs hs (n + 1) = freeTo f1 zs hs n ++ (if hs.any (takenB f1 zs n) = true then [] else [(n : Int)]) := by
  unfold freeTo
  rw [List.range_succ, List.map_append, List.filter_append]
  congr 1
  cases h : hs.any (takenB f1 zs n)
  · simp [h]
  · simp [h]
theorem freeTo_len {α : Type} [Inhabited α] (f1 : α → Int) (zs : List α) (hs : List Int) (n : Nat) : (freeTo f1 zs hs n).length ≤ n := by
  unfold freeTo
  exact Nat.le_trans (List.length_filter_le _ _) (by simp)
def chooseF {α : Type} [Inhabited α] (f1 : α → Int) (f2 : α → List Int) (zs : List α) (at_ coin : Int) : Int × Bool :=
  if (freeTo f1 zs (f2 zs[at_.toNat]!) 20).length = 0 then (f1 zs[at_.toNat]!, false) else ((freeTo f1 zs (f2 zs[at_.toNat]!) 20).getD (coin.tmod ((freeTo f1 zs (f2 zs[at_.toNat]!) 20).length : Int)).toNat 0, true)
def chooseG {α : Type} [Inhabited α] (f1 : α → Int) (f2 : α → List Int) (ok : Bool) (zs : List α) (at_ coin : Int) : Int × Bool :=
  if ok = true then (if 0 ≤ at_ ∧ at_ ≤ (zs.length : Int) - 1 ∧ 0 ≤ coin then chooseF f1 f2 zs at_ coin else (-1, false)) else (-1, false)
theorem info3 : (Try.prog.info? 3).map (fun i => (i.zero, i.size, i.bytes)) = some (some (.int .i64 0), 1, 8) := by kernel_rfl
set_option maxHeartbeats 4000000 in
theorem choose_any {α : Type} [Inhabited α] (f1 : α → Int) (f2 : α → List Int) (A : Option Addr) (c : Nat) (zs : List α) (at_ coin : Int) (ok : Bool) (w : World) (hn : zs.length ≤ 9223372036854775807)
    (hok : ∀ W : World, Below w.heap.size w W → Calls Try.prog 26 #[.slice A zs.length c] W fun e w' => e = .returned (.bool ok) ∧ Below W.heap.size W w')
    (hr : Radios f1 f2 A zs w) (hv : ok = true → 0 ≤ at_ → at_ ≤ (zs.length : Int) - 1 → ∀ h ∈ f2 zs[at_.toNat]!, 0 ≤ h ∧ h < (zs.length : Int)) :
    Calls Try.prog 34 #[.slice A zs.length c, .int .i64 at_, .int .i64 coin] w
      fun e w' => e = .returned (.tuple #[.int .i64 (chooseG f1 f2 ok zs at_ coin).1, .bool (chooseG f1 f2 ok zs at_ coin).2]) ∧ Below w.heap.size w w' := by
  have hb1 : Below w.heap.size w (w.alloc (.cells #[.slice A zs.length c] 36)) := (Below.refl _ _).alloc (Nat.le_refl _) _
  have hcall := hok _ hb1
  have HB := Aside0.mk hb1
  have HR := Aside0.mk (hr.below hb1)
  have HV := Aside0.mk hv
  clear hr hb1 hok hv
  go_enter Try.func34, Try.ntmps34
  go_wp2_with fail
  refine hcall.mono ?_
  rintro e w1 ⟨rfl, hb2⟩
  have hz : w.heap.size < (w.alloc (.cells #[.slice A zs.length c] 36)).heap.size := by simp
  have hz0 : w1.cell? ⟨w.heap.size, 0, none⟩ = some (.slice A zs.length c) := (hb2.cell (p := ⟨w.heap.size, 0, none⟩) hz).trans (show (w.alloc (.cells #[.slice A zs.length c] 36)).cell? ⟨w.heap.size, 0, none⟩ = some (.slice A zs.length c) by go_simp)
  have HZ := Aside0.mk (And.intro (Nat.lt_of_lt_of_le hz hb2.size) hz0)
  have HRW := Aside0.mk (HR.out.below hb2)
  have HB2 := Aside0.mk (HB.out.trans (hb2.mono HB.out.size))
  clear hb2 HR hcall hz HB
  cases ok
  · have HE := Aside0.mk (show chooseG f1 f2 false zs at_ coin = (-1, false) from rfl)
    go_wp2
    go_ret2
    rw [HE.out]
    exact ⟨rfl, HB2.out⟩
  · go_wp2_with fail
    refine (in_any _ _ _ _).mono ?_
    rintro e w2 ⟨rfl, rfl⟩
    generalize hin : (decide (0 ≤ at_) && decide (at_ ≤ (zs.length : Int) - 1)) = bi
    cases bi
    · have hno : ¬ (0 ≤ at_ ∧ at_ ≤ (zs.length : Int) - 1 ∧ 0 ≤ coin) := fun h => by
        rw [decide_eq_true h.1, decide_eq_true h.2.1] at hin
        cases hin
      have HE := Aside0.mk (show chooseG f1 f2 true zs at_ coin = (-1, false) by simp only [chooseG, if_true]; rw [if_neg hno])
      clear hno hin
      go_wp2
      go_ret2
      rw [HE.out]
      exact ⟨rfl, HB2.out⟩
    · simp only [Bool.and_eq_true, decide_eq_true_eq] at hin
      obtain ⟨T, rfl⟩ : ∃ T : Nat, at_ = (T : Int) := ⟨at_.toNat, by omega⟩
      by_cases hcoin : coin < 0
      · have hd : decide (coin < 0) = true := decide_eq_true hcoin
        have hno : ¬ (0 ≤ (T : Int) ∧ (T : Int) ≤ (zs.length : Int) - 1 ∧ 0 ≤ coin) := fun h => by omega
        have HE := Aside0.mk (show chooseG f1 f2 true zs (T : Int) coin = (-1, false) by simp only [chooseG, if_true]; rw [if_neg hno])
        clear hno hin
        go_wp2
        go_ret2
        rw [HE.out]
        exact ⟨rfl, HB2.out⟩
      · have hd : decide (coin < 0) = false := decide_eq_false hcoin
        have HYES := Aside0.mk (show 0 ≤ (T : Int) ∧ (T : Int) ≤ (zs.length : Int) - 1 ∧ 0 ≤ coin by omega)
        have hT : T < zs.length := by omega
        have hTI : (T : Int) < (zs.length : Int) := by omega
        have hvv := HV.out (by first | trivial | rfl) (by omega) (by omega)
        rw [Int.toNat_natCast] at hvv
        have HE := Aside0.mk (show chooseG f1 f2 true zs (T : Int) coin = if (freeTo f1 zs (f2 zs[T]!) 20).length = 0 then (f1 zs[T]!, false) else ((freeTo f1 zs (f2 zs[T]!) 20).getD (coin.tmod ((freeTo f1 zs (f2 zs[T]!) 20).length : Int)).toNat 0, true) by simp only [chooseG, if_true]; rw [if_pos HYES.out]; simp only [chooseF, Int.toNat_natCast])
        obtain ⟨hs, hhs⟩ : ∃ hs, f2 zs[T]! = hs := ⟨_, rfl⟩
        obtain ⟨y1, hy1⟩ : ∃ y, f1 zs[T]! = y := ⟨_, rfl⟩
        rw [hhs] at hvv HE
        rw [hy1] at HE
        have HHS := Aside0.mk hhs
        have HY1 := Aside0.mk hy1
        clear hhs hy1
        have HVV := Aside0.mk hvv
        have HC := Aside0.mk hcoin
        clear hvv HV hin hcoin
        have eg : ∀ args w, (callFunc 55 args).run Try.prog w = .ok (.enter 55 args) w := enters_of Try.func55 (by kernel_rfl) rfl
        have EG := Aside0.mk eg
        clear eg
        go_wp2
        obtain ⟨wa, hwa⟩ : ∃ wa : World, wa = w2 := ⟨_, rfl⟩
        subst hwa
        go_loopw [8, 25] (fun s8 s25 wr => ∃ i : Nat, i ≤ 20 ∧ s25 = .int .i64 i ∧ Aside0 (Kd.R (Kd.int .i64) 3 wr wa.heap.size (fun _ => True) s8 (freeTo f1 zs hs i)) ∧ Aside0 (Below wa.heap.size wa wr)) (fun _ i _ => 20 - (RowKit.intOf i).toNat)
        case atStart => exact ⟨0, by omega, rfl, ⟨Kd.R_nil _ _ _ _ _⟩, ⟨Below.refl _ _⟩⟩
        case round =>
          obtain ⟨i, hi, rfl, RO, BW⟩ := hrel
          by_cases h20 : i < 20
          · have d20 : decide ((i : Int) < 20) = true := decide_eq_true (by omega)
            have hbw : Below wr.heap.size wr (wr.alloc (.cells #[.int .i64 (i : Int)] 3)) := (Below.refl _ _).alloc (Nat.le_refl _) _
            have hrr := (HRW.out.below BW.out).below hbw
            have hz0 : wr.cell? ⟨w.heap.size, 0, none⟩ = some (.slice A zs.length c) := (BW.out.cell (p := ⟨w.heap.size, 0, none⟩) HZ.out.1).trans HZ.out.2
            have hzlt : w.heap.size < wr.heap.size := Nat.lt_of_lt_of_le HZ.out.1 BW.out.size
            obtain ⟨ad, A2, c2, rfl, x1, x2, hc2, hC⟩ := hrr.out T hT
            rw [HHS.out] at x2 hc2 hC
            rw [HY1.out] at x1
            have hcon := containsFuncIn (takenB f1 zs (i : Int)) 55 #[.pointer (some ⟨w.heap.size, 0, none⟩), .pointer (some ⟨wr.heap.size, 0, none⟩)] EG.out A2 c2 hs _
              (clo_any f1 f2 (some ad) c zs (i : Int) hs w.heap.size wr.heap.size (wr.alloc (.cells #[.int .i64 (i : Int)] 3)) (by simp; omega) (by simp) (by go_simp) (by go_simp) hrr HVV.out) hC
            have HBW := Aside0.mk hbw
            clear hbw hrr hC
            have hfs := freeTo_succ f1 zs hs i
            cases htk : hs.any (takenB f1 zs (i : Int))
            · rw [htk] at hfs hcon
              simp only [Bool.false_eq_true, if_false] at hfs
              have HFS := Aside0.mk hfs
              clear hfs htk
              go_wp2_with fail
              refine hcon.mono ?_
              rintro e w3 ⟨rfl, hb3⟩
              have HB3 := Aside0.mk (HBW.out.trans (hb3.mono HBW.out.size))
              have hx : w3.cell? ⟨wr.heap.size, 0, none⟩ = some (.int .i64 (i : Int)) := (hb3.cell (p := ⟨wr.heap.size, 0, none⟩) (by simp)).trans (by go_simp)
              have RO3 := Aside0.mk (Kd.R_below RO.out HB3.out)
              have BW3 := Aside0.mk (below_step BW.out HB3.out)
              have HLN := Aside0.mk (freeTo_len f1 zs hs i)
              clear hb3 hcon RO BW HB3
              go_wp2_with ((with_reducible refine gate_builtin (b := .append) (xs := #[.tmp 36, .tmp 38]) rfl ?_); (try (refine gate_guard (by rfl) ?_; dsimp only)); at_builtin; refine Kd.R_append (Kd.int .i64) (w0 := wa) wa.heap.size rfl (.tmp 36) (.tmp 38) 22 3 (.int .i64 0) 8 rfl Try.underlying22 info3 rfl (by decide) (by omega) u8 (freeTo f1 zs hs i) (i : Int) [.int .i64 (i : Int)] (fun _ => True) (fun _ => False) rfl rfl ?aP (fun _ hk => hk.elim) ?aF ?aO ?aB ?aS ?aL ?_; (case aP => exact rfl); (case aB => exact (by repeat (first | exact BW3.out | apply below_alloc))); (case aF => exact (fun _ _ => trivial)); (case aO => exact RO3.out); (case aS => exact (below_size (by repeat (first | exact BW3.out | apply below_alloc)))); (case aL => have := HLN.out; omega); intro v4 w4 ho hb hg hat; rw [← HFS.out] at ho; have RO4 := Aside0.mk ho; have BW4 := Aside0.mk hb; clear ho hb hg hat)
              go_wp2
              refine ⟨⟨i + 1, by omega, by push_cast; rfl, RO4, BW4⟩, ?_⟩
              simp only [RowKit.intOf]
              omega
            · rw [htk] at hfs hcon
              simp only [if_true, List.append_nil] at hfs
              have HFS := Aside0.mk hfs
              clear hfs htk
              go_wp2_with fail
              refine hcon.mono ?_
              rintro e w3 ⟨rfl, hb3⟩
              have HB3 := Aside0.mk (HBW.out.trans (hb3.mono HBW.out.size))
              have RO3 := Aside0.mk (Kd.R_below RO.out HB3.out)
              have BW3 := Aside0.mk (below_step BW.out HB3.out)
              clear hb3 hcon
              go_wp2
              refine ⟨⟨i + 1, by omega, by push_cast; rfl, ⟨by rw [HFS.out]; exact RO3.out⟩, BW3⟩, ?_⟩
              simp only [RowKit.intOf]
              omega
          · have d20 : decide ((i : Int) < 20) = false := decide_eq_false (by omega)
            obtain rfl : i = 20 := by omega
            obtain ⟨ad, A2, c2, rfl, x1, x2, hc2, hC⟩ := (HRW.out.below BW.out).out T hT
            have hz0 : wr.cell? ⟨w.heap.size, 0, none⟩ = some (.slice (some ad) zs.length c) := (BW.out.cell (p := ⟨w.heap.size, 0, none⟩) HZ.out.1).trans HZ.out.2
            have hzlt : w.heap.size < wr.heap.size := Nat.lt_of_lt_of_le HZ.out.1 BW.out.size
            rw [HY1.out] at x1
            clear hC x2
            have hL20 := freeTo_len f1 zs hs 20
            generalize freeTo f1 zs hs 20 = L at RO HE hL20
            obtain ⟨Ao, co, eo⟩ := Kd.R_slice RO.out
            subst eo
            have HBZ := Aside0.mk (HB2.out.trans (BW.out.mono HB2.out.size))
            by_cases hL : L.length = 0
            · have c0 : ((L.length : Int) == 0) = true := beq_iff_eq.mpr (by omega)
              have HE2 := Aside0.mk (HE.out.trans (if_pos hL))
              clear hL
              go_wp2
              go_ret2
              rw [HE2.out]
              exact ⟨rfl, HBZ.out⟩
            · have c38 : ¬ (L.length : Int) = 0 := by omega
              have c38b0 : ((L.length : Int) == 0) = false := beq_eq_false_iff_ne.mpr c38
              have c38b1 : ((L.length : Int) != 0) = true := bne_iff_ne.mpr c38
              have c38b2 : ¬ (L = []) := fun h_ => c38 (by rw [h_]; rfl)
              have HE2 := Aside0.mk (HE.out.trans (if_neg hL))
              have p0 : 0 ≤ Int.tmod coin (L.length : Int) := Int.tmod_nonneg _ HYES.out.2.2
              have q0 : Int.tmod coin (L.length : Int) < (L.length : Int) := Int.tmod_lt_of_pos _ (by omega)
              generalize hj : Int.tmod coin (L.length : Int) = ji at p0 q0 HE2
              obtain ⟨ad7, e7, hx7⟩ := Kd.at_int (Kd.R_reads' RO.out).2.2 ji p0 q0
              cases e7
              have HJ := Aside0.mk (show rd L ji = L.getD ji.toNat 0 from rfl)
              replace p0 := eq_true p0
              replace q0 := eq_true q0
              clear hL
              go_wp2
              go_ret2
              rw [HE2.out, ← HJ.out]
              exact ⟨rfl, HBZ.out⟩
end Go.Proofs.Ytdhnbikjfckmaaa.Ch
