/- The plain part: what the program's and the reference's Greatest compute is the same. -/
import Derived.Test.YtdhnbikjfckmaaaDc
import Derived.Test.YtdhnbikjfckmaaaPD1x2
import Derived.Test.YtdhnbikjfckmaaaPD1x4
import Derived.Test.YtdhnbikjfckmaaaPD1x6
namespace Go.Proofs.Ytdhnbikjfckmaaa.Dc
open Go.RowKit Go.Proofs.Ytdhnbikjfckmaaa.PD1 Go.Proofs.YtdhnbikjfckmaaaW.PrintWords
set_option linter.unusedSimpArgs false
theorem u64w (x : Int) (h0 : 0 ≤ x) (h1 : x < 18446744073709551616) : IntKind.u64.wrap x = x := by
  have : IntKind.u64.wrap x = x % 18446744073709551616 := by simp [IntKind.wrap, IntKind.bits, IntKind.signed]
  omega
theorem u64size (x : Int) (h0 : -9223372036854775808 ≤ x) (h1 : x ≤ 9223372036854775807) (h : x < 0) : IntKind.u64.wrap (-(IntKind.u64.wrap x)) = (x.natAbs : Int) := by
  have e : ∀ z : Int, IntKind.u64.wrap z = z % 18446744073709551616 := fun z => by simp [IntKind.wrap, IntKind.bits, IntKind.signed]
  rw [e, e]
  omega
theorem u64pos (x : Int) (h1 : x ≤ 9223372036854775807) (h : ¬ x < 0) : IntKind.u64.wrap x = (x.natAbs : Int) := by
  rw [u64w _ (by omega) (by omega)]
  omega
theorem bigger (a b : Int) (ha : -9223372036854775808 ≤ a ∧ a ≤ 9223372036854775807) (hb : -9223372036854775808 ≤ b ∧ b ≤ 9223372036854775807) : spec_l3Bigger.f a b = some (decide (b.natAbs < a.natAbs)) := by
  unfold spec_l3Bigger.f
  by_cases h1 : a > 0
  · rw [if_pos h1, w64 (-a) (by omega) (by omega)]
    by_cases h2 : b > 0
    · rw [if_pos h2, w64 (-b) (by omega) (by omega)]
      congr 1
      exact decide_eq_decide.2 (by omega)
    · rw [if_neg h2]
      congr 1
      exact decide_eq_decide.2 (by omega)
  · rw [if_neg h1]
    by_cases h2 : b > 0
    · rw [if_pos h2, w64 (-b) (by omega) (by omega)]
      congr 1
      exact decide_eq_decide.2 (by omega)
    · rw [if_neg h2]
      congr 1
      exact decide_eq_decide.2 (by omega)
theorem greatest_loop (l : List Int) (hn : l.length ≤ 9223372036854775807) (hw : ∀ x ∈ l, -9223372036854775808 ≤ x ∧ x ≤ 9223372036854775807) (d : Nat) : ∀ (i : Nat) (at_ x most : Int), i + d = l.length →
    ((at_ = -1 ∧ x = 0 ∧ most = 0) ∨ ∃ a : Nat, at_ = a ∧ ∃ h : a < l.length, x = l[a] ∧ most = (l[a].natAbs : Int)) →
    ∃ r, Ev (fun k => spec_Greatest.l0 k l at_ x i) r ∧ Ev (fun k => impl_Greatest.l0 k l at_ most l l.length i) r := by
  induction d with
  | zero =>
    intro i at_ x most hd hR
    refine ⟨(at_, x), Ev.ret fun k => ?_, Ev.ret fun k => ?_⟩
    · simp only [spec_Greatest.l0]
      rw [if_neg (by omega)]
    · simp only [impl_Greatest.l0]
      rw [if_neg (by omega)]
      rcases hR with ⟨rfl, rfl, rfl⟩ | ⟨a, rfl, ha, rfl, rfl⟩
      · simp
      · rw [if_neg (by omega), if_pos (by omega), if_pos (by omega), rd_at l a ha]
  | succ d ih =>
    intro i at_ x most hd hR
    have hi : i < l.length := by omega
    have hb := hw _ (List.getElem_mem hi)
    have hsz : (if rd l (i : Int) < 0 then IntKind.u64.wrap (-(IntKind.u64.wrap (rd l (i : Int)))) else IntKind.u64.wrap (rd l (i : Int))) = (l[i].natAbs : Int) := by
      rw [rd_at l i hi]
      by_cases h : l[i] < 0
      · rw [if_pos h, u64size _ hb.1 hb.2 h]
      · rw [if_neg h, u64pos _ hb.2 h]
    -- the round of the program, in one form
    have hI : ∀ k, impl_Greatest.l0 (k + 1) l at_ most l l.length i = if at_ < 0 then impl_Greatest.l0 k l i (l[i].natAbs : Int) l l.length ((i + 1 : Nat) : Int) else if (l[i].natAbs : Int) > most then impl_Greatest.l0 k l i (l[i].natAbs : Int) l l.length ((i + 1 : Nat) : Int) else impl_Greatest.l0 k l at_ most l l.length ((i + 1 : Nat) : Int) := by
      intro k
      simp only [impl_Greatest.l0]
      rw [if_pos (by omega), if_pos (by omega), if_pos (by omega), wk (n := l.length) (by omega) hn]
      by_cases h : rd l (i : Int) < 0
      · rw [if_pos h] at hsz ⊢
        rw [hsz]
      · rw [if_neg h] at hsz ⊢
        rw [hsz]
    rcases hR with ⟨rfl, rfl, rfl⟩ | ⟨a, rfl, ha, rfl, rfl⟩
    · obtain ⟨r, h1, h2⟩ := ih (i + 1) (i : Int) l[i] (l[i].natAbs : Int) (by omega) (.inr ⟨i, rfl, hi, rfl, rfl⟩)
      refine ⟨r, Ev.step (fun k => ?_) h1, Ev.step (fun k => ?_) h2⟩
      · simp only [spec_Greatest.l0]
        rw [if_pos (by omega), if_pos (by omega), if_pos (by omega), rd_at l i hi, wk (n := l.length) (by omega) hn]
      · rw [hI, if_pos (by omega)]
    · have ha2 := hw _ (List.getElem_mem ha)
      by_cases hg : l[a].natAbs < l[i].natAbs
      · obtain ⟨r, h1, h2⟩ := ih (i + 1) (i : Int) l[i] (l[i].natAbs : Int) (by omega) (.inr ⟨i, rfl, hi, rfl, rfl⟩)
        refine ⟨r, Ev.step (fun k => ?_) h1, Ev.step (fun k => ?_) h2⟩
        · simp only [spec_Greatest.l0]
          rw [if_pos (by omega), if_neg (by omega), if_pos (by omega), rd_at l i hi, bigger _ _ hb ha2, decide_eq_true hg]
          simp only [Option.bind_some, if_true]
          rw [wk (n := l.length) (by omega) hn]
        · rw [hI, if_neg (by omega), if_pos (by omega)]
      · obtain ⟨r, h1, h2⟩ := ih (i + 1) (a : Int) l[a] (l[a].natAbs : Int) (by omega) (.inr ⟨a, rfl, ha, rfl, rfl⟩)
        refine ⟨r, Ev.step (fun k => ?_) h1, Ev.step (fun k => ?_) h2⟩
        · simp only [spec_Greatest.l0]
          rw [if_pos (by omega), if_neg (by omega), if_pos (by omega), rd_at l i hi, bigger _ _ hb ha2, decide_eq_false hg]
          simp only [Option.bind_some, Bool.false_eq_true, if_false]
          rw [wk (n := l.length) (by omega) hn]
        · rw [hI, if_neg (by omega), if_neg (by omega)]
end Go.Proofs.Ytdhnbikjfckmaaa.Dc
namespace Go.Proofs.Ytdhnbikjfckmaaa.Pure
open Go.RowKit Go.Proofs.Ytdhnbikjfckmaaa.PD1 Go.Proofs.YtdhnbikjfckmaaaW.PrintWords Go.Proofs.Ytdhnbikjfckmaaa.Dc
theorem FnExactGreatest : laws_FnExactGreatest.Pure := by
  intro l hm _ hw
  have hmx : maxLen = 9223372036854775807 := rfl
  refine Ev.rounds (g := fun k => laws_FnExactGreatest.f k l) ?_
  unfold laws_FnExactGreatest.f
  by_cases h : (l.length : Int) > 1048576
  · exact Ev.const fun k => by rw [if_pos h]
  · have hl : l.length ≤ 1048576 := by omega
    obtain ⟨r, h1, h2⟩ := greatest_loop l (by omega) (fun x hx => wf64 (hw x hx)) l.length 0 (-1) 0 0 (by omega) (.inl ⟨rfl, rfl, rfl⟩)
    refine Ev.congr (fun k => by rw [if_neg h]) (Ev.bind (toIntS l hl) (Ev.bind (a := r) h1 (Ev.bind (toIntS l hl) (Ev.bind (a := r) h2 ?_))))
    simp only [if_true, bne_self_eq_false]
    refine Ev.step (f := fun k => (laws_toIntS.f k l).bind fun t124 => ((laws_eqIntS.f k l t124).bind fun t127 => (if t127 = true then (some true) else (some false)))) (fun k => ?_) (Ev.bind (toIntS l hl) (Ev.bind (eqIntS l (by omega)) (Ev.yes rfl (Ev.const fun _ => rfl))))
    simp only [laws_FnExactGreatest.j0, Bool.false_eq_true, if_false]
end Go.Proofs.Ytdhnbikjfckmaaa.Pure
