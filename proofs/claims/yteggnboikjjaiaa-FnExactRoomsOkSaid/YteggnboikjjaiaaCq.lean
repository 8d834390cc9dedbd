/- slices.IndexFunc and slices.ContainsFunc at structs. -/
import Derived.Test.YteggnboikjjaiaaCf
import Derived.Shelf.SlicesQ.Load
namespace Go.Proofs.Yteggnboikjjaiaa.Cf
open Go Go.RowKit Go.Lib Go.Proofs.YteggnboikjjaiaaW.PrintWords
set_option linter.unusedVariables false
set_option linter.unusedSimpArgs false

set_option maxHeartbeats 2000000 in
theorem indexFunc_Mass {α : Type} [Inhabited α] (K : Nat) (hK : ∀ w, (Go.sizeOf 68).run Try.prog w = .ok K w) (enc : α → List Value) (hk : ∀ x, (enc x).length = K) (p : α → Bool) (g : Nat) (lb : Array Value) (eg : ∀ args w, (callFunc g args).run Try.prog w = .ok (.enter g args) w) (A : Option Addr) (c : Nat) (zs : List α) (w : World)
    (hp : Answers g lb (fun x => .agg (enc x).toArray) p w) (hbig : zs.length ≤ 9223372036854775807) (hr : ∀ j, j < zs.length → ∃ ad, A = some ad ∧ ∀ i v, (enc zs[j]!)[i]? = some v → w.cell? (ad.add (j * K + i)) = some v) :
    Calls Try.prog 83 #[.slice A zs.length c, .func (.func g) #[] lb] w fun e w' => e = .returned (.int .i64 (Lib.idxBy (fun _ y => p y) zs default)) ∧ Below w.heap.size w w' := by
  have aE : ∀ w, (isAgg 68).run Try.prog w = .ok true w := fun _ => by kernel_rfl
  have hrow : ∀ (W : World), Below w.heap.size w W → ∀ j, j < zs.length → ∃ ad, A = some ad ∧ Sem.run Try.prog (loadCellsFrom (ad.add (j * K)) 0 K #[]) W = .ok (enc zs[j]!).toArray W := fun W hW j hj => by
    obtain ⟨ad, e, hc⟩ := hr j hj
    refine ⟨ad, e, run_loadCellsFrom_list Try.prog _ _ (enc zs[j]!) K (hk _) (fun i v hi => ?_)⟩
    have := pw_cell_below hW (hc i v hi)
    rw [add_add]
    exact this
  have HROW := Aside0.mk hrow
  have HP := Aside0.mk hp
  clear hr hrow hp
  go_enter Try.func83, Try.ntmps83
  go_wp2
  go_loopg [5, 8] zs.length (fun gg _ s8 wr => ∃ kk : Nat, kk ≤ zs.length ∧ zs.length - kk ≤ gg ∧ s8 = .int .i64 kk ∧ Aside0 (Below w.heap.size w wr) ∧ Aside0 (∀ j, j < kk → p zs[j]! = false))
  case atStart => exact ⟨0, Nat.zero_le _, by omega, rfl, ⟨Below.refl _ w⟩, ⟨fun j hj => absurd hj (Nat.not_lt_zero _)⟩⟩
  case round =>
    obtain ⟨kk, hkk, hg, rfl, BW, AA⟩ := hrel
    by_cases hlt : kk < zs.length
    · have hltz : (kk : Int) < (zs.length : Int) := by omega
      obtain ⟨ad, rfl, l2⟩ := HROW.out wr BW.out kk (by omega)
      have hcall := HP.out wr zs[kk]! BW.out
      clear HROW HP
      generalize hy : zs[kk]! = y at l2 hcall
      have B := Aside0.mk hy
      clear hy
      cases hq : p y with
      | true =>
        rw [hq] at hcall
        go_wp2_with fail
        refine hcall.mono ?_
        rintro e w' ⟨rfl, hb'⟩
        go_wp2
        go_ret
        refine ⟨?_, BW.out.trans (hb'.mono BW.out.size)⟩
        have := Lib.idxBy_hit (fun _ y => p y) zs zs.length kk default hlt (Nat.le_refl _) (by show p zs[kk]! = true; rw [B.out]; exact hq) AA.out
        rw [List.take_length] at this
        rw [this]
        rfl
      | false =>
        rw [hq] at hcall
        go_wp2_with fail
        refine hcall.mono ?_
        rintro e w' ⟨rfl, hb'⟩
        go_wp2
        go_roundg (zs.length - (kk + 1))
        case measure => omega
        case rel =>
          refine ⟨kk + 1, by omega, by omega, by go_num, ⟨BW.out.trans (hb'.mono BW.out.size)⟩, ⟨fun j hj => ?_⟩⟩
          by_cases e : j = kk
          · subst e
            rw [B.out]; exact hq
          · exact AA.out j (by omega)
    · have hltz : ¬ (kk : Int) < (zs.length : Int) := by omega
      have hk : kk = zs.length := by omega
      clear HROW HP
      have AA2 := AA.out
      subst hk
      go_wp2
      go_ret
      refine ⟨?_, BW.out⟩
      have := Lib.idxBy_miss (fun _ y => p y) zs zs.length default AA2
      rw [List.take_length] at this
      rw [this]
      rfl
theorem containsFunc_Mass {α : Type} [Inhabited α] (K : Nat) (hK : ∀ w, (Go.sizeOf 68).run Try.prog w = .ok K w) (enc : α → List Value) (hk : ∀ x, (enc x).length = K) (p : α → Bool) (g : Nat) (lb : Array Value) (eg : ∀ args w, (callFunc g args).run Try.prog w = .ok (.enter g args) w) (A : Option Addr) (c : Nat) (zs : List α) (w : World)
    (hp : Answers g lb (fun x => .agg (enc x).toArray) p w) (hbig : zs.length ≤ 9223372036854775807) (hr : ∀ j, j < zs.length → ∃ ad, A = some ad ∧ ∀ i v, (enc zs[j]!)[i]? = some v → w.cell? (ad.add (j * K + i)) = some v) :
    Calls Try.prog 59 #[.slice A zs.length c, .func (.func g) #[] lb] w fun e w' => e = .returned (.bool (zs.any p)) ∧ Below w.heap.size w w' := by
  have e1 : zs.any p = decide (0 ≤ Lib.idxBy (fun _ y => p y) zs default) := (Lib.idxBy_nonneg_iff (fun _ y => p y) zs default).symm
  rw [e1]
  go_enter Try.func59, Try.ntmps59
  go_wp2_with (go_at_call 83; refine (indexFunc_Mass K hK enc hk p g lb eg A c zs _ hp hbig hr).mono ?_; rintro e w' ⟨rfl, hb⟩)
  go_ret
  exact ⟨rfl, hb⟩

set_option maxHeartbeats 2000000 in
theorem indexFunc_Tank {α : Type} [Inhabited α] (K : Nat) (hK : ∀ w, (Go.sizeOf 91).run Try.prog w = .ok K w) (enc : α → List Value) (hk : ∀ x, (enc x).length = K) (p : α → Bool) (g : Nat) (lb : Array Value) (eg : ∀ args w, (callFunc g args).run Try.prog w = .ok (.enter g args) w) (A : Option Addr) (c : Nat) (zs : List α) (w : World)
    (hp : Answers g lb (fun x => .agg (enc x).toArray) p w) (hbig : zs.length ≤ 9223372036854775807) (hr : ∀ j, j < zs.length → ∃ ad, A = some ad ∧ ∀ i v, (enc zs[j]!)[i]? = some v → w.cell? (ad.add (j * K + i)) = some v) :
    Calls Try.prog 93 #[.slice A zs.length c, .func (.func g) #[] lb] w fun e w' => e = .returned (.int .i64 (Lib.idxBy (fun _ y => p y) zs default)) ∧ Below w.heap.size w w' := by
  have aE : ∀ w, (isAgg 91).run Try.prog w = .ok true w := fun _ => by kernel_rfl
  have hrow : ∀ (W : World), Below w.heap.size w W → ∀ j, j < zs.length → ∃ ad, A = some ad ∧ Sem.run Try.prog (loadCellsFrom (ad.add (j * K)) 0 K #[]) W = .ok (enc zs[j]!).toArray W := fun W hW j hj => by
    obtain ⟨ad, e, hc⟩ := hr j hj
    refine ⟨ad, e, run_loadCellsFrom_list Try.prog _ _ (enc zs[j]!) K (hk _) (fun i v hi => ?_)⟩
    have := pw_cell_below hW (hc i v hi)
    rw [add_add]
    exact this
  have HROW := Aside0.mk hrow
  have HP := Aside0.mk hp
  clear hr hrow hp
  go_enter Try.func93, Try.ntmps93
  go_wp2
  go_loopg [5, 8] zs.length (fun gg _ s8 wr => ∃ kk : Nat, kk ≤ zs.length ∧ zs.length - kk ≤ gg ∧ s8 = .int .i64 kk ∧ Aside0 (Below w.heap.size w wr) ∧ Aside0 (∀ j, j < kk → p zs[j]! = false))
  case atStart => exact ⟨0, Nat.zero_le _, by omega, rfl, ⟨Below.refl _ w⟩, ⟨fun j hj => absurd hj (Nat.not_lt_zero _)⟩⟩
  case round =>
    obtain ⟨kk, hkk, hg, rfl, BW, AA⟩ := hrel
    by_cases hlt : kk < zs.length
    · have hltz : (kk : Int) < (zs.length : Int) := by omega
      obtain ⟨ad, rfl, l2⟩ := HROW.out wr BW.out kk (by omega)
      have hcall := HP.out wr zs[kk]! BW.out
      clear HROW HP
      generalize hy : zs[kk]! = y at l2 hcall
      have B := Aside0.mk hy
      clear hy
      cases hq : p y with
      | true =>
        rw [hq] at hcall
        go_wp2_with fail
        refine hcall.mono ?_
        rintro e w' ⟨rfl, hb'⟩
        go_wp2
        go_ret
        refine ⟨?_, BW.out.trans (hb'.mono BW.out.size)⟩
        have := Lib.idxBy_hit (fun _ y => p y) zs zs.length kk default hlt (Nat.le_refl _) (by show p zs[kk]! = true; rw [B.out]; exact hq) AA.out
        rw [List.take_length] at this
        rw [this]
        rfl
      | false =>
        rw [hq] at hcall
        go_wp2_with fail
        refine hcall.mono ?_
        rintro e w' ⟨rfl, hb'⟩
        go_wp2
        go_roundg (zs.length - (kk + 1))
        case measure => omega
        case rel =>
          refine ⟨kk + 1, by omega, by omega, by go_num, ⟨BW.out.trans (hb'.mono BW.out.size)⟩, ⟨fun j hj => ?_⟩⟩
          by_cases e : j = kk
          · subst e
            rw [B.out]; exact hq
          · exact AA.out j (by omega)
    · have hltz : ¬ (kk : Int) < (zs.length : Int) := by omega
      have hk : kk = zs.length := by omega
      clear HROW HP
      have AA2 := AA.out
      subst hk
      go_wp2
      go_ret
      refine ⟨?_, BW.out⟩
      have := Lib.idxBy_miss (fun _ y => p y) zs zs.length default AA2
      rw [List.take_length] at this
      rw [this]
      rfl
theorem containsFunc_Tank {α : Type} [Inhabited α] (K : Nat) (hK : ∀ w, (Go.sizeOf 91).run Try.prog w = .ok K w) (enc : α → List Value) (hk : ∀ x, (enc x).length = K) (p : α → Bool) (g : Nat) (lb : Array Value) (eg : ∀ args w, (callFunc g args).run Try.prog w = .ok (.enter g args) w) (A : Option Addr) (c : Nat) (zs : List α) (w : World)
    (hp : Answers g lb (fun x => .agg (enc x).toArray) p w) (hbig : zs.length ≤ 9223372036854775807) (hr : ∀ j, j < zs.length → ∃ ad, A = some ad ∧ ∀ i v, (enc zs[j]!)[i]? = some v → w.cell? (ad.add (j * K + i)) = some v) :
    Calls Try.prog 89 #[.slice A zs.length c, .func (.func g) #[] lb] w fun e w' => e = .returned (.bool (zs.any p)) ∧ Below w.heap.size w w' := by
  have e1 : zs.any p = decide (0 ≤ Lib.idxBy (fun _ y => p y) zs default) := (Lib.idxBy_nonneg_iff (fun _ y => p y) zs default).symm
  rw [e1]
  go_enter Try.func89, Try.ntmps89
  go_wp2_with (go_at_call 93; refine (indexFunc_Tank K hK enc hk p g lb eg A c zs _ hp hbig hr).mono ?_; rintro e w' ⟨rfl, hb⟩)
  go_ret
  exact ⟨rfl, hb⟩
end Go.Proofs.Yteggnboikjjaiaa.Cf
