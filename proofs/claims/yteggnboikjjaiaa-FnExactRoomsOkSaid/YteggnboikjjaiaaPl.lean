/- Contracts in closed form: waterOk, Plane, Inertia3 of the program. -/
import Derived.Test.YteggnboikjjaiaaSt
import Derived.Test.YteggnboikjjaiaaHp
import Derived.Test.YteggnboikjjaiaaOpen
namespace Go.Proofs.Yteggnboikjjaiaa.Pl
open Go Go.RowKit Go.Proofs.YteggnboikjjaiaaW.PrintWords Go.Proofs.Yteggnboikjjaiaa.Hp Go.Proofs.Yteggnboikjjaiaa.Cf
set_option linter.unusedVariables false
set_option linter.unusedSimpArgs false

theorem hull_any (s r : Int) (A : Option Addr) (c : Nat) (l : List (List Int)) (w : World) (hr : Kd.C (Kd.slice 3 (Kd.int .i64)) w A l.length l) (hc : l.length ≤ c) :
    Calls Try.prog 26 #[.agg #[.int .i64 s, .int .i64 r, .slice A l.length c]] w fun e w' => e = .returned (.bool (okHull s r l)) ∧ Below w.heap.size w w' := by
  obtain ⟨k, hk⟩ := Ev.rounds (impl_ok s r l hr.2.1)
  exact PH1.impl_HullOk.calls k s r A c l _ w hr hc hk
def okWater (s r : Int) (l : List (List Int)) (m : Int) : Bool := okHull s r l && decide (0 ≤ m ∧ m ≤ ((l.headD []).length : Int) - 1)
theorem okHull_len {s r : Int} {l : List (List Int)} (h : okHull s r l = true) : (2 ≤ l.length ∧ l.length ≤ 12) ∧ (2 ≤ (l.headD []).length ∧ (l.headD []).length ≤ 10) ∧ (∀ k, k < l.length → (l.getD k []).length = (l.headD []).length) ∧ (1 ≤ s ∧ s ≤ 100) ∧ (1 ≤ r ∧ r ≤ 20) := by
  unfold okHull at h
  simp only [Bool.and_eq_true, decide_eq_true_eq] at h
  obtain ⟨⟨h1, h2⟩, h3, h4, h5⟩ := h
  refine ⟨h3, h4, fun k hk => ?_, h1, h2⟩
  have := List.all_eq_true.1 h5 _ (List.getElem_mem hk)
  unfold okRow at this
  simp only [Bool.and_eq_true, decide_eq_true_eq] at this
  rw [List.getD_eq_getElem?_getD, List.getElem?_eq_getElem hk]
  exact this.1
theorem head_cell {e : Nat} {w : World} {A : Option Addr} {l : List (List Int)} (hr : Kd.C (Kd.slice e (Kd.int .i64)) w A l.length l) (h0 : 0 < l.length) :
    ∃ ad A' c', A = some ad ∧ w.cell? ad = some (.slice A' (l.headD []).length c') := by
  obtain ⟨ad, cs, e1, hl, hK, hcell⟩ := Kd.C_get hr ([] : List Int) 0 (by omega) (by omega)
  obtain ⟨A', c', rfl, hlc, hC⟩ := hK
  have h0 := hcell 0 _ rfl
  have e3 : (0 : Int).toNat * Kd.sz (Kd.slice e (Kd.int .i64)) + 0 = 0 := by simp
  have e5 : ad.add 0 = ad := by simp [Addr.add]
  rw [e3, e5] at h0
  have e4 : l.getD (0 : Int).toNat [] = l.headD [] := by cases l <;> rfl
  rw [e4] at h0
  exact ⟨ad, A', c', e1, h0⟩
set_option maxHeartbeats 1000000 in
theorem water_any (s r m : Int) (A : Option Addr) (c : Nat) (l : List (List Int)) (w : World) (hr : Kd.C (Kd.slice 3 (Kd.int .i64)) w A l.length l) (hc : l.length ≤ c) :
    Calls Try.prog 68 #[.agg #[.int .i64 s, .int .i64 r, .slice A l.length c], .int .i64 m] w fun e w' => e = .returned (.bool (okWater s r l m)) ∧ Below w.heap.size w w' := by
  have hl := hr.2.1
  have hb1 : Below w.heap.size w (w.alloc (.cells #[.int .i64 s, .int .i64 r, .slice A l.length c] 39)) := (Below.refl _ _).alloc (Nat.le_refl _) _
  have hcall := hull_any s r A c l _ (Kd.C_below hr hb1) hc
  have HR := Aside0.mk (Kd.C_below hr hb1)
  have HB := Aside0.mk hb1
  unfold okWater
  obtain ⟨n1, hn1⟩ : ∃ n1, n1 = (l.headD []).length := ⟨_, rfl⟩
  rw [← hn1]
  clear hr hb1
  cases ho : okHull s r l
  · rw [ho] at hcall
    go_enter Try.func68, Try.ntmps68
    go_wp2_with fail
    refine hcall.mono ?_
    rintro e w1 ⟨rfl, hb2⟩
    have HB2 := Aside0.mk (HB.out.trans (hb2.mono HB.out.size))
    clear hb2 HR hcall
    go_wp2
    go_ret
    exact ⟨rfl, HB2.out⟩
  · rw [ho] at hcall
    have HL := Aside0.mk (okHull_len ho)
    have HN := Aside0.mk hn1
    clear hn1
    go_enter Try.func68, Try.ntmps68
    go_wp2_with fail
    refine hcall.mono ?_
    rintro e w1 ⟨rfl, hb2⟩
    have hz : w.heap.size < (w.alloc (.cells #[.int .i64 s, .int .i64 r, .slice A l.length c] 39)).heap.size := by simp
    have z2 : w1.cell? ⟨w.heap.size, 2, none⟩ = some (.slice A l.length c) := (hb2.cell (p := ⟨w.heap.size, 2, none⟩) hz).trans (by go_simp)
    have HRW := Kd.C_below HR.out hb2
    obtain ⟨ad, A', c', rfl, x1⟩ := head_cell HRW (by have := HL.out.1.1; omega)
    have HB2 := Aside0.mk (HB.out.trans (hb2.mono HB.out.size))
    have q1 : (2 : Int) ≤ ((l.headD []).length : Int) := by have := HL.out.2.1.1; omega
    have q2 : ((l.headD []).length : Int) ≤ 10 := by have := HL.out.2.1.2; omega
    rw [← HN.out] at x1 q1 q2
    have q3 : (0 : Int) < (l.length : Int) := by have := HL.out.1.1; omega
    have q4 : 0 < l.length := by have := HL.out.1.1; omega
    clear hb2 HR hcall hz HRW HL
    go_wp2_with fail
    refine (in_any m 0 ((n1 : Int) - 1) _).mono ?_
    rintro e w2 ⟨rfl, rfl⟩
    go_wp2
    go_ret
    refine ⟨?_, HB2.out⟩
    simp
def addG (a b : Int) : Int := wrap64 (a + b)
def cubG (a b : Int) : Int := wrap64 (wrap64 (wrap64 (a * a) * a) + wrap64 (wrap64 (b * b) * b))

theorem plane_clo (W : World) (a b : Int) : Calls Try.prog 70 #[.int .i64 a, .int .i64 b] W fun e w' => e = .returned (.int .i64 (addG a b)) ∧ w' = W := by
  unfold addG
  go_enter Try.func70, Try.ntmps70
  go_wp2
  go_ret
  exact ⟨by simp, rfl⟩
def planeF (s r : Int) (l : List (List Int)) (m : Int) : Int := if okWater s r l m = true then stripAcc addG s l m.toNat (l.length - 1) else 0
set_option maxHeartbeats 1000000 in
theorem plane_any (s r m : Int) (A : Option Addr) (c : Nat) (l : List (List Int)) (w : World) (hr : Kd.C (Kd.slice 3 (Kd.int .i64)) w A l.length l) (hc : l.length ≤ c) :
    Calls Try.prog 29 #[.agg #[.int .i64 s, .int .i64 r, .slice A l.length c], .int .i64 m] w fun e w' => e = .returned (.int .i64 (planeF s r l m)) ∧ Below w.heap.size w w' := by
  have hl := hr.2.1
  have hb1 : Below w.heap.size w (w.alloc (.cells #[.int .i64 s, .int .i64 r, .slice A l.length c] 39)) := (Below.refl _ _).alloc (Nat.le_refl _) _
  have hcall := water_any s r m A c l _ (Kd.C_below hr hb1) hc
  have HR := Aside0.mk (Kd.C_below hr hb1)
  have HB := Aside0.mk hb1
  clear hr hb1
  cases ho : okWater s r l m
  · rw [ho] at hcall
    unfold planeF
    rw [ho]
    go_enter Try.func29, Try.ntmps29
    go_wp2_with fail
    refine hcall.mono ?_
    rintro e w1 ⟨rfl, hb2⟩
    have HB2 := Aside0.mk (HB.out.trans (hb2.mono HB.out.size))
    clear hb2 HR hcall
    go_wp2
    go_ret
    exact ⟨by simp, HB2.out⟩
  · rw [ho] at hcall
    unfold planeF
    rw [ho]
    have HW := Aside0.mk ho
    unfold okWater at ho
    simp only [Bool.and_eq_true, decide_eq_true_eq] at ho
    have hL := okHull_len ho.1
    obtain ⟨M, rfl⟩ : ∃ M : Nat, m = (M : Int) := ⟨m.toNat, by omega⟩
    have hM : M < (l.headD []).length := by omega
    have hall : ∀ k, k < l.length → M < (l.getD k []).length := fun k hk => by rw [hL.2.2.1 k hk]; exact hM
    have h1 : 1 ≤ l.length := by omega
    have eg : ∀ args w, (callFunc 70 args).run Try.prog w = .ok (.enter 70 args) w := enters_of Try.func70 (by kernel_rfl) rfl
    have hst := fun w1 hr1 => strips_any 70 addG plane_clo eg s r A c l M w1 hr1 h1 hall
    clear ho hL hM hall h1 eg
    have HST := Aside0.mk hst
    clear hst
    simp only [if_true, Int.toNat_natCast]
    go_enter Try.func29, Try.ntmps29
    go_wp2_with fail
    refine hcall.mono ?_
    rintro e w1 ⟨rfl, hb2⟩
    have hz : w.heap.size < (w.alloc (.cells #[.int .i64 s, .int .i64 r, .slice A l.length c] 39)).heap.size := by simp
    have z0 : w1.cell? ⟨w.heap.size, 0, none⟩ = some (.int .i64 s) := (hb2.cell (p := ⟨w.heap.size, 0, none⟩) hz).trans (by go_simp)
    have z1 : w1.cell? ⟨w.heap.size, 1, none⟩ = some (.int .i64 r) := (hb2.cell (p := ⟨w.heap.size, 1, none⟩) hz).trans (by go_simp)
    have z2 : w1.cell? ⟨w.heap.size, 2, none⟩ = some (.slice A l.length c) := (hb2.cell (p := ⟨w.heap.size, 2, none⟩) hz).trans (by go_simp)
    have hs := HST.out w1 (Kd.C_below HR.out hb2)
    have HB2 := Aside0.mk (HB.out.trans (hb2.mono HB.out.size))
    clear hb2 HR hcall hz HST
    go_wp2_with fail
    refine hs.mono ?_
    rintro e w2 ⟨rfl, hb3⟩
    have HB3 := Aside0.mk (HB2.out.trans (hb3.mono HB2.out.size))
    clear hb3 hs z0 z1 z2
    go_wp2
    go_ret
    exact ⟨rfl, HB3.out⟩

theorem inertia_clo (W : World) (a b : Int) : Calls Try.prog 71 #[.int .i64 a, .int .i64 b] W fun e w' => e = .returned (.int .i64 (cubG a b)) ∧ w' = W := by
  unfold cubG
  go_enter Try.func71, Try.ntmps71
  go_wp2
  go_ret
  exact ⟨by simp, rfl⟩
def inertiaF (s r : Int) (l : List (List Int)) (m : Int) : Int := if okWater s r l m = true then stripAcc cubG s l m.toNat (l.length - 1) else 0
set_option maxHeartbeats 1000000 in
theorem inertia_any (s r m : Int) (A : Option Addr) (c : Nat) (l : List (List Int)) (w : World) (hr : Kd.C (Kd.slice 3 (Kd.int .i64)) w A l.length l) (hc : l.length ≤ c) :
    Calls Try.prog 31 #[.agg #[.int .i64 s, .int .i64 r, .slice A l.length c], .int .i64 m] w fun e w' => e = .returned (.int .i64 (inertiaF s r l m)) ∧ Below w.heap.size w w' := by
  have hl := hr.2.1
  have hb1 : Below w.heap.size w (w.alloc (.cells #[.int .i64 s, .int .i64 r, .slice A l.length c] 39)) := (Below.refl _ _).alloc (Nat.le_refl _) _
  have hcall := water_any s r m A c l _ (Kd.C_below hr hb1) hc
  have HR := Aside0.mk (Kd.C_below hr hb1)
  have HB := Aside0.mk hb1
  clear hr hb1
  cases ho : okWater s r l m
  · rw [ho] at hcall
    unfold inertiaF
    rw [ho]
    go_enter Try.func31, Try.ntmps31
    go_wp2_with fail
    refine hcall.mono ?_
    rintro e w1 ⟨rfl, hb2⟩
    have HB2 := Aside0.mk (HB.out.trans (hb2.mono HB.out.size))
    clear hb2 HR hcall
    go_wp2
    go_ret
    exact ⟨by simp, HB2.out⟩
  · rw [ho] at hcall
    unfold inertiaF
    rw [ho]
    have HW := Aside0.mk ho
    unfold okWater at ho
    simp only [Bool.and_eq_true, decide_eq_true_eq] at ho
    have hL := okHull_len ho.1
    obtain ⟨M, rfl⟩ : ∃ M : Nat, m = (M : Int) := ⟨m.toNat, by omega⟩
    have hM : M < (l.headD []).length := by omega
    have hall : ∀ k, k < l.length → M < (l.getD k []).length := fun k hk => by rw [hL.2.2.1 k hk]; exact hM
    have h1 : 1 ≤ l.length := by omega
    have eg : ∀ args w, (callFunc 71 args).run Try.prog w = .ok (.enter 71 args) w := enters_of Try.func71 (by kernel_rfl) rfl
    have hst := fun w1 hr1 => strips_any 71 cubG inertia_clo eg s r A c l M w1 hr1 h1 hall
    clear ho hL hM hall h1 eg
    have HST := Aside0.mk hst
    clear hst
    simp only [if_true, Int.toNat_natCast]
    go_enter Try.func31, Try.ntmps31
    go_wp2_with fail
    refine hcall.mono ?_
    rintro e w1 ⟨rfl, hb2⟩
    have hz : w.heap.size < (w.alloc (.cells #[.int .i64 s, .int .i64 r, .slice A l.length c] 39)).heap.size := by simp
    have z0 : w1.cell? ⟨w.heap.size, 0, none⟩ = some (.int .i64 s) := (hb2.cell (p := ⟨w.heap.size, 0, none⟩) hz).trans (by go_simp)
    have z1 : w1.cell? ⟨w.heap.size, 1, none⟩ = some (.int .i64 r) := (hb2.cell (p := ⟨w.heap.size, 1, none⟩) hz).trans (by go_simp)
    have z2 : w1.cell? ⟨w.heap.size, 2, none⟩ = some (.slice A l.length c) := (hb2.cell (p := ⟨w.heap.size, 2, none⟩) hz).trans (by go_simp)
    have hs := HST.out w1 (Kd.C_below HR.out hb2)
    have HB2 := Aside0.mk (HB.out.trans (hb2.mono HB.out.size))
    clear hb2 HR hcall hz HST
    go_wp2_with fail
    refine hs.mono ?_
    rintro e w2 ⟨rfl, hb3⟩
    have HB3 := Aside0.mk (HB2.out.trans (hb3.mono HB2.out.size))
    clear hb3 hs z0 z1 z2
    go_wp2
    go_ret
    exact ⟨rfl, HB3.out⟩
end Go.Proofs.Yteggnboikjjaiaa.Pl
