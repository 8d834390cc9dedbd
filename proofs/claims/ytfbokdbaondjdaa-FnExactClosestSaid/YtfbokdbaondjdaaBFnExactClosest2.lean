import Derived.Test.YtfbokdbaondjdaaProg
import Derived.Test.YtfbokdbaondjdaaBFnExactClosest0
import Derived.Test.YtfbokdbaondjdaaBFnExactClosest1
import Derived.Below
import Derived.Deep.Draws
import Derived.Deep.AppendLies
import Derived.Maps.AppendAt
import Derived.OwnWalk
import Derived.Laws.BytesArg
import Derived.Laws.MakeOwn
import Derived.Laws.OwnMore
import Derived.Deep.OwnRows
import Derived.Tactics
import Derived.Lib.ConvBytes
import Derived.Laws.Slices
import Derived.WalkKit
import Derived.KernelRfl
import Derived.RowKit3
import Derived.Deep.LoopGhost
import Derived.Deep.QuietTactic
import Derived.BigQuiet
import Derived.WideLaws
import Derived.Deep.DeepCutAuto
import Derived.Deep.CutBlock
import Derived.Deep.RegionHeld3
import Derived.Laws.Rows
import Derived.Lib.AppendStr
import Derived.ArgAppend
import Derived.Laws.IdiomCopy
import Derived.OrdersHeld
import Derived.Laws.BitsLemmas
import Derived.RowKit
/- Behind of the program, HeadOn of both, in closed form, over what its parts answer. -/
namespace Go.Proofs.Ytfbokdbaondjdaa.Ai
open Go Go.RowKit Go.Proofs.YtfbokdbaondjdaaW.PrintWords Go.Proofs.YtfbokdbaondjdaaW.PrintLast Go.Proofs.YtfbokdbaondjdaaW.PrintMore Go.Proofs.Ytfbokdbaondjdaa.Rg Go.Proofs.Ytfbokdbaondjdaa.Rs
set_option linter.unusedVariables false
set_option linter.unusedSimpArgs false
set_option maxHeartbeats 8000000 in
set_option maxRecDepth 100000 in
theorem ibehind_any (a0 a1 a2 a3 a4 a5 b0 b1 b2 b3 b4 b5 x y d c q1 q2 : Int) (s1 s2 : Bool) (w : World)
    (yok1 : ∀ W : World, Calls Try.prog 17 #[.agg #[.int .i64 a0, .int .i64 a1, .int .i64 a2, .int .i64 a3, .int .i64 a4, .int .i64 a5]] W fun e w' => e = .returned (.bool s1) ∧ Below W.heap.size W w')
    (yok2 : ∀ W : World, Calls Try.prog 17 #[.agg #[.int .i64 b0, .int .i64 b1, .int .i64 b2, .int .i64 b3, .int .i64 b4, .int .i64 b5]] W fun e w' => e = .returned (.bool s2) ∧ Below W.heap.size W w')
    (ybr : ∀ W : World, Calls Try.prog 70 #[.agg #[.int .i64 a0, .int .i64 a1, .int .i64 a2, .int .i64 a3, .int .i64 a4, .int .i64 a5], .agg #[.int .i64 b0, .int .i64 b1, .int .i64 b2, .int .i64 b3, .int .i64 b4, .int .i64 b5]] W fun e w' => e = .returned (.agg #[.int .i64 x, .int .i64 y]) ∧ Below W.heap.size W w')
    (ywy : ∀ W : World, Calls Try.prog 71 #[.agg #[.int .i64 b0, .int .i64 b1, .int .i64 b2, .int .i64 b3, .int .i64 b4, .int .i64 b5]] W fun e w' => e = .returned (.agg #[.int .i64 b2, .int .i64 b3]) ∧ Below W.heap.size W w')
    (ydt : ∀ W : World, Calls Try.prog 72 #[.agg #[.int .i64 x, .int .i64 y], .agg #[.int .i64 b2, .int .i64 b3]] W fun e w' => e = .returned (.int .i64 d) ∧ Below W.heap.size W w')
    (ycr : ∀ W : World, Calls Try.prog 74 #[.agg #[.int .i64 x, .int .i64 y], .agg #[.int .i64 b2, .int .i64 b3]] W fun e w' => e = .returned (.int .i64 c) ∧ Below W.heap.size W w')
    (ysc : ∀ W : World, Calls Try.prog 73 #[.int .i64 c] W fun e w' => e = .returned (.int .u64 q1) ∧ Below W.heap.size W w')
    (ysd : ∀ W : World, Calls Try.prog 73 #[.int .i64 d] W fun e w' => e = .returned (.int .u64 q2) ∧ Below W.heap.size W w') :
    Calls Try.prog 29 #[.agg #[.int .i64 a0, .int .i64 a1, .int .i64 a2, .int .i64 a3, .int .i64 a4, .int .i64 a5], .agg #[.int .i64 b0, .int .i64 b1, .int .i64 b2, .int .i64 b3, .int .i64 b4, .int .i64 b5]] w fun e w' => e = .returned (.bool (s1 && s2 && (decide (d < 0) && decide (IntKind.u64.wrap (q1 * 5) ≤ IntKind.u64.wrap (q2 * 29))))) ∧ Below w.heap.size w w' := by
  have Hyok1 := Aside0.mk yok1
  have Hyok2 := Aside0.mk yok2
  have Hybr := Aside0.mk ybr
  have Hywy := Aside0.mk ywy
  have Hydt := Aside0.mk ydt
  have Hycr := Aside0.mk ycr
  have Hysc := Aside0.mk ysc
  have Hysd := Aside0.mk ysd
  clear yok1 yok2 ybr ywy ydt ycr ysc ysd
  go_enter Try.func29, Try.ntmps29
  go_upto_region 1 with fail
  have BA : Blk ((w.alloc (.cells #[.int .i64 a0, .int .i64 a1, .int .i64 a2, .int .i64 a3, .int .i64 a4, .int .i64 a5] 25)).alloc (.cells #[.int .i64 b0, .int .i64 b1, .int .i64 b2, .int .i64 b3, .int .i64 b4, .int .i64 b5] 25)) (w.heap.size) 25 #[.int .i64 a0, .int .i64 a1, .int .i64 a2, .int .i64 a3, .int .i64 a4, .int .i64 a5] := (Blk.new w 25 #[.int .i64 a0, .int .i64 a1, .int .i64 a2, .int .i64 a3, .int .i64 a4, .int .i64 a5]).alloc (.cells #[.int .i64 b0, .int .i64 b1, .int .i64 b2, .int .i64 b3, .int .i64 b4, .int .i64 b5] 25)
  have BB : Blk ((w.alloc (.cells #[.int .i64 a0, .int .i64 a1, .int .i64 a2, .int .i64 a3, .int .i64 a4, .int .i64 a5] 25)).alloc (.cells #[.int .i64 b0, .int .i64 b1, .int .i64 b2, .int .i64 b3, .int .i64 b4, .int .i64 b5] 25)) (w.heap.size + 1) 25 #[.int .i64 b0, .int .i64 b1, .int .i64 b2, .int .i64 b3, .int .i64 b4, .int .i64 b5] := Blk.newAt 25 #[.int .i64 b0, .int .i64 b1, .int .i64 b2, .int .i64 b3, .int .i64 b4, .int .i64 b5] (by simp)
  have hb0 : Below w.heap.size w ((w.alloc (.cells #[.int .i64 a0, .int .i64 a1, .int .i64 a2, .int .i64 a3, .int .i64 a4, .int .i64 a5] 25)).alloc (.cells #[.int .i64 b0, .int .i64 b1, .int .i64 b2, .int .i64 b3, .int .i64 b4, .int .i64 b5] 25)) := ((Below.refl w.heap.size w).alloc (by simp) (.cells #[.int .i64 a0, .int .i64 a1, .int .i64 a2, .int .i64 a3, .int .i64 a4, .int .i64 a5] 25)).alloc (by simp) (.cells #[.int .i64 b0, .int .i64 b1, .int .i64 b2, .int .i64 b3, .int .i64 b4, .int .i64 b5] 25)
  generalize ((w.alloc (.cells #[.int .i64 a0, .int .i64 a1, .int .i64 a2, .int .i64 a3, .int .i64 a4, .int .i64 a5] 25)).alloc (.cells #[.int .i64 b0, .int .i64 b1, .int .i64 b2, .int .i64 b3, .int .i64 b4, .int .i64 b5] 25)) = W0 at BA BB hb0 ⊢
  have HB := Aside0.mk hb0
  clear hb0
  obtain ⟨qBA0, qBA1, qBA2, qBA3, qBA4, qBA5⟩ := BA.six
  have zBA := BA.lt
  obtain ⟨qBB0, qBB1, qBB2, qBB3, qBB4, qBB5⟩ := BB.six
  have zBB := BB.lt
  go_wp2_with fail
  refine (Hyok1.out _).mono ?_
  rintro e w1 ⟨rfl, hb⟩
  clear qBA0 qBA1 qBA2 qBA3 qBA4 qBA5 zBA
  clear qBB0 qBB1 qBB2 qBB3 qBB4 qBB5 zBB
  replace BA := BA.below hb
  replace BB := BB.below hb
  replace HB := Aside0.mk (HB.out.trans (hb.mono HB.out.size))
  clear hb
  cases s1
  case false =>
    obtain ⟨qBA0, qBA1, qBA2, qBA3, qBA4, qBA5⟩ := BA.six
    have zBA := BA.lt
    obtain ⟨qBB0, qBB1, qBB2, qBB3, qBB4, qBB5⟩ := BB.six
    have zBB := BB.lt
    go_wp2
    go_ret
    exact ⟨rfl, HB.out⟩
  case true =>
    obtain ⟨qBA0, qBA1, qBA2, qBA3, qBA4, qBA5⟩ := BA.six
    have zBA := BA.lt
    obtain ⟨qBB0, qBB1, qBB2, qBB3, qBB4, qBB5⟩ := BB.six
    have zBB := BB.lt
    go_wp2_with fail
    refine (Hyok2.out _).mono ?_
    rintro e w2 ⟨rfl, hb⟩
    clear qBA0 qBA1 qBA2 qBA3 qBA4 qBA5 zBA
    clear qBB0 qBB1 qBB2 qBB3 qBB4 qBB5 zBB
    replace BA := BA.below hb
    replace BB := BB.below hb
    replace HB := Aside0.mk (HB.out.trans (hb.mono HB.out.size))
    clear hb
    cases s2
    case false =>
      obtain ⟨qBA0, qBA1, qBA2, qBA3, qBA4, qBA5⟩ := BA.six
      have zBA := BA.lt
      obtain ⟨qBB0, qBB1, qBB2, qBB3, qBB4, qBB5⟩ := BB.six
      have zBB := BB.lt
      go_wp2
      go_ret
      exact ⟨rfl, HB.out⟩
    case true =>
      obtain ⟨qBA0, qBA1, qBA2, qBA3, qBA4, qBA5⟩ := BA.six
      have zBA := BA.lt
      obtain ⟨qBB0, qBB1, qBB2, qBB3, qBB4, qBB5⟩ := BB.six
      have zBB := BB.lt
      go_upto_region 3 with fail
      clear qBA0 qBA1 qBA2 qBA3 qBA4 qBA5 zBA
      clear qBB0 qBB1 qBB2 qBB3 qBB4 qBB5 zBB
      replace BA := BA.drew
      replace BB := BB.drew
      refine region_sp (by kernel_rfl) [some 15, some 16, some 17, some 18, some 19, some 5, some 6, none, none] [undef, undef, undef, undef, undef, undef, undef, undef, undef] [Sp.val (fun v => v = .agg #[.int .i64 a0, .int .i64 a1, .int .i64 a2, .int .i64 a3, .int .i64 a4, .int .i64 a5]), Sp.val (fun v => v = .agg #[.int .i64 b0, .int .i64 b1, .int .i64 b2, .int .i64 b3, .int .i64 b4, .int .i64 b5]), Sp.val (fun v => v = .agg #[.int .i64 x, .int .i64 y]), Sp.val (fun v => v = .agg #[.int .i64 b0, .int .i64 b1, .int .i64 b2, .int .i64 b3, .int .i64 b4, .int .i64 b5]), Sp.val (fun v => v = .agg #[.int .i64 b2, .int .i64 b3]), Sp.new 89 #[.int .i64 0, .int .i64 0] 7 (fun cs => cs = #[.int .i64 x, .int .i64 y]), Sp.new 89 #[.int .i64 0, .int .i64 0] 8 (fun cs => cs = #[.int .i64 b2, .int .i64 b3]), Sp.put 5, Sp.put 6] (by kernel_rfl) rfl (by kernel_rfl) ⟨?_, ?_, ?_, ?_, ?_, ?_, ?_, ?_, ?_, trivial⟩ ?_
      · intro vs hl u1 hb hd
        obtain ⟨v0, v1, v2, v3, v4, v5, v6, v7, v8, rfl⟩ := len9 hl
        clear hl
        intro K hK
        obtain ⟨l0, l1, l2, l3, l4, l5⟩ := (BA.below hb).six
        simp only [fs, fo, fz, Act.put, s1, s2, s3] at hK ⊢
        refine ⟨?_⟩
        go_simp
        exact hK _ _ (Below.refl _ _) rfl
      · intro vs hl u1 hb hd
        obtain ⟨v0, v1, v2, v3, v4, v5, v6, v7, v8, rfl⟩ := len9 hl
        clear hl
        intro K hK
        obtain ⟨l0, l1, l2, l3, l4, l5⟩ := (BB.below hb).six
        simp only [fs, fo, fz, Act.put, s1, s2, s3] at hK ⊢
        refine ⟨?_⟩
        go_simp
        exact hK _ _ (Below.refl _ _) rfl
      · intro vs hl u1 hb hd
        obtain ⟨v0, v1, v2, v3, v4, v5, v6, v7, v8, rfl⟩ := len9 hl
        clear hl
        obtain ⟨kh0, kh1, _⟩ := hd
        obtain rfl : v0 = .agg #[.int .i64 a0, .int .i64 a1, .int .i64 a2, .int .i64 a3, .int .i64 a4, .int .i64 a5] := kh0
        obtain rfl : v1 = .agg #[.int .i64 b0, .int .i64 b1, .int .i64 b2, .int .i64 b3, .int .i64 b4, .int .i64 b5] := kh1
        intro K hK
        simp only [fs, fo, fz, Act.put, s1, s2, s3] at hK ⊢
        refine ⟨?_⟩
        go_simp
        refine (Hybr.out _).mono ?_
        rintro e w2 ⟨rfl, hb2⟩
        exact hK _ _ hb2 rfl
      · intro vs hl u1 hb hd
        obtain ⟨v0, v1, v2, v3, v4, v5, v6, v7, v8, rfl⟩ := len9 hl
        clear hl
        intro K hK
        obtain ⟨l0, l1, l2, l3, l4, l5⟩ := (BB.below hb).six
        simp only [fs, fo, fz, Act.put, s1, s2, s3] at hK ⊢
        refine ⟨?_⟩
        go_simp
        exact hK _ _ (Below.refl _ _) rfl
      · intro vs hl u1 hb hd
        obtain ⟨v0, v1, v2, v3, v4, v5, v6, v7, v8, rfl⟩ := len9 hl
        clear hl
        obtain ⟨kh3, kh2, _⟩ := hd
        obtain rfl : v3 = .agg #[.int .i64 b0, .int .i64 b1, .int .i64 b2, .int .i64 b3, .int .i64 b4, .int .i64 b5] := kh3
        obtain rfl : v2 = .agg #[.int .i64 x, .int .i64 y] := kh2
        intro K hK
        simp only [fs, fo, fz, Act.put, s1, s2, s3] at hK ⊢
        refine ⟨?_⟩
        go_simp
        refine (Hywy.out _).mono ?_
        rintro e w2 ⟨rfl, hb2⟩
        exact hK _ _ hb2 rfl
      · intro vs hl u1 hb hd
        obtain ⟨v0, v1, v2, v3, v4, v5, v6, v7, v8, rfl⟩ := len9 hl
        clear hl
        intro K hK
        simp only [fs, fo, fz, Act.put, s1, s2, s3] at hK ⊢
        refine ⟨?_⟩
        go_simp
        exact hK
      · intro vs hl u1 hb hd
        obtain ⟨v0, v1, v2, v3, v4, v5, v6, v7, v8, rfl⟩ := len9 hl
        clear hl
        intro K hK
        simp only [fs, fo, fz, Act.put, s1, s2, s3] at hK ⊢
        refine ⟨?_⟩
        go_simp
        exact hK
      · intro vs hl u1 hb hd
        obtain ⟨v0, v1, v2, v3, v4, v5, v6, v7, v8, rfl⟩ := len9 hl
        clear hl
        obtain ⟨kh5, kh2, kh4, kh0, kh1, _, _, kh6, _⟩ := hd
        obtain ⟨g3_5, rfl, ka5, kb5, kc5, kd5, ke5⟩ := kh5
        obtain rfl : v2 = .agg #[.int .i64 x, .int .i64 y] := kh2
        obtain rfl : v4 = .agg #[.int .i64 b2, .int .i64 b3] := kh4
        obtain rfl : v0 = .agg #[.int .i64 a0, .int .i64 a1, .int .i64 a2, .int .i64 a3, .int .i64 a4, .int .i64 a5] := kh0
        obtain rfl : v1 = .agg #[.int .i64 b0, .int .i64 b1, .int .i64 b2, .int .i64 b3, .int .i64 b4, .int .i64 b5] := kh1
        obtain ⟨g3_6, rfl, ka6, kb6, kc6, kd6, ke6⟩ := kh6
        intro g hg hcs K hK
        cases hg
        obtain ⟨l0, l1⟩ := (Blk.mk hcs).two
        have m0 := (Blk.mk hcs).free 0
        have m1 := (Blk.mk hcs).free 1
        simp only [fs, fo, fz, Act.put, s1, s2, s3] at hK ⊢
        refine ⟨?_⟩
        go_simp
        exact hK _ (filled2 hcs rfl)
      · intro vs hl u1 hb hd
        obtain ⟨v0, v1, v2, v3, v4, v5, v6, v7, v8, rfl⟩ := len9 hl
        clear hl
        obtain ⟨kh6, kh4, _, kh0, kh1, kh2, kh3, _, kh5, _, _, _⟩ := hd
        obtain ⟨g3_6, rfl, ka6, kb6, kc6, kd6, ke6⟩ := kh6
        obtain rfl : v4 = .agg #[.int .i64 b2, .int .i64 b3] := kh4
        obtain rfl : v0 = .agg #[.int .i64 a0, .int .i64 a1, .int .i64 a2, .int .i64 a3, .int .i64 a4, .int .i64 a5] := kh0
        obtain rfl : v1 = .agg #[.int .i64 b0, .int .i64 b1, .int .i64 b2, .int .i64 b3, .int .i64 b4, .int .i64 b5] := kh1
        obtain rfl : v2 = .agg #[.int .i64 x, .int .i64 y] := kh2
        obtain rfl : v3 = .agg #[.int .i64 b0, .int .i64 b1, .int .i64 b2, .int .i64 b3, .int .i64 b4, .int .i64 b5] := kh3
        obtain ⟨g3_5, rfl, ka5, kb5, kc5, kd5, ke5⟩ := kh5
        intro g hg hcs K hK
        cases hg
        obtain ⟨l0, l1⟩ := (Blk.mk hcs).two
        have m0 := (Blk.mk hcs).free 0
        have m1 := (Blk.mk hcs).free 1
        simp only [fs, fo, fz, Act.put, s1, s2, s3] at hK ⊢
        refine ⟨?_⟩
        go_simp
        exact hK _ (filled2 hcs rfl)
      · intro vs hl w3 hb hd ha
        obtain ⟨v0, v1, v2, v3, v4, v5, v6, v7, v8, rfl⟩ := len9 hl
        clear hl
        obtain ⟨kh0, kh1, kh2, kh3, kh4, kh5, kh6, kh7, kh8, _⟩ := hd
        obtain rfl : v0 = .agg #[.int .i64 a0, .int .i64 a1, .int .i64 a2, .int .i64 a3, .int .i64 a4, .int .i64 a5] := kh0
        obtain rfl : v1 = .agg #[.int .i64 b0, .int .i64 b1, .int .i64 b2, .int .i64 b3, .int .i64 b4, .int .i64 b5] := kh1
        obtain rfl : v2 = .agg #[.int .i64 x, .int .i64 y] := kh2
        obtain rfl : v3 = .agg #[.int .i64 b0, .int .i64 b1, .int .i64 b2, .int .i64 b3, .int .i64 b4, .int .i64 b5] := kh3
        obtain rfl : v4 = .agg #[.int .i64 b2, .int .i64 b3] := kh4
        obtain ⟨g3_5, rfl, ka5, kb5, kc5, kd5, ke5⟩ := kh5
        clear ke5 kd5 kc5
        obtain ⟨g3_6, rfl, ka6, kb6, kc6, kd6, ke6⟩ := kh6
        clear ke6 kd6 kc6
        obtain ⟨g_, hg_, _, _, cs_, hcs_, hq_⟩ := kh7
        cases hg_
        subst hq_
        have B5 := Blk.mk hcs_
        clear hcs_
        obtain ⟨g_, hg_, _, _, cs_, hcs_, hq_⟩ := kh8
        cases hg_
        subst hq_
        have B6 := Blk.mk hcs_
        clear hcs_
        have ne5_6 : g3_5 ≠ g3_6 := by rintro rfl; exact ha 5 6 (by decide) rfl rfl rfl
        clear ha
        simp only [fs, fo, fz, Act.put, s1, s2, s3]
        replace BA := BA.below hb
        replace BB := BB.below hb
        replace HB := Aside0.mk (HB.out.trans ((Below.trans (show Below w2.heap.size w2 w2.drew from pw_below_drewN (Below.refl _ _) 1) hb).mono HB.out.size))
        clear hb
        go_upto_region 4 with fail
        rcases hp0 : (decide (d < 0) : Bool) with _ | _
        case false =>
          replace BA := BA.drew
          replace BB := BB.drew
          replace B5 := B5.drew
          replace B6 := B6.drew
          refine region_sp (by kernel_rfl) [some 20, some 21, some 22, some 23, some 24, some 25, some 26, some 27, some 28, some 29, some 30, some 31, some 32, some 33, some 34, some 35, some 36, some 4] [undef, undef, undef, undef, undef, undef, undef, undef, undef, undef, undef, undef, undef, undef, undef, undef, undef, .bool false] [Sp.val (fun v => v = .agg #[.int .i64 x, .int .i64 y]), Sp.val (fun v => v = .agg #[.int .i64 b2, .int .i64 b3]), Sp.val (fun v => v = .int .i64 d), Sp.val (fun v => v = .bool false), Sp.val (fun v => v = .bool false), Sp.val (fun _ => True), Sp.val (fun _ => True), Sp.val (fun _ => True), Sp.val (fun _ => True), Sp.val (fun _ => True), Sp.val (fun _ => True), Sp.val (fun _ => True), Sp.val (fun _ => True), Sp.val (fun _ => True), Sp.val (fun _ => True), Sp.val (fun _ => True), Sp.val (fun v => v = .bool false), Sp.val (fun v => v = .bool false)] (by kernel_rfl) rfl (by kernel_rfl) ⟨?_, ?_, ?_, ?_, ?_, ?_, ?_, ?_, ?_, ?_, ?_, ?_, ?_, ?_, ?_, ?_, ?_, ?_, trivial⟩ ?_
          · intro vs hl u1 hb hd
            obtain ⟨v0, v1, v2, v3, v4, v5, v6, v7, v8, v9, v10, v11, v12, v13, v14, v15, v16, v17, rfl⟩ := len18 hl
            clear hl
            intro K hK
            obtain ⟨l0, l1⟩ := (B5.below hb).two
            simp only [fs, fo, fz, Act.put, s1, s2, s3] at hK ⊢
            refine ⟨?_⟩
            go_simp
            exact hK _ _ (Below.refl _ _) rfl
          · intro vs hl u1 hb hd
            obtain ⟨v0, v1, v2, v3, v4, v5, v6, v7, v8, v9, v10, v11, v12, v13, v14, v15, v16, v17, rfl⟩ := len18 hl
            clear hl
            intro K hK
            obtain ⟨l0, l1⟩ := (B6.below hb).two
            simp only [fs, fo, fz, Act.put, s1, s2, s3] at hK ⊢
            refine ⟨?_⟩
            go_simp
            exact hK _ _ (Below.refl _ _) rfl
          · intro vs hl u1 hb hd
            obtain ⟨v0, v1, v2, v3, v4, v5, v6, v7, v8, v9, v10, v11, v12, v13, v14, v15, v16, v17, rfl⟩ := len18 hl
            clear hl
            obtain ⟨kh0, kh1, _⟩ := hd
            obtain rfl : v0 = .agg #[.int .i64 x, .int .i64 y] := kh0
            obtain rfl : v1 = .agg #[.int .i64 b2, .int .i64 b3] := kh1
            intro K hK
            simp only [fs, fo, fz, Act.put, s1, s2, s3] at hK ⊢
            refine ⟨?_⟩
            go_simp
            refine (Hydt.out _).mono ?_
            rintro e w2 ⟨rfl, hb2⟩
            exact hK _ _ hb2 rfl
          · intro vs hl u1 hb hd
            obtain ⟨v0, v1, v2, v3, v4, v5, v6, v7, v8, v9, v10, v11, v12, v13, v14, v15, v16, v17, rfl⟩ := len18 hl
            clear hl
            obtain ⟨kh2, _⟩ := hd
            obtain rfl : v2 = .int .i64 d := kh2
            intro K hK
            simp only [fs, fo, fz, Act.put, s1, s2, s3] at hK ⊢
            refine ⟨?_⟩
            go_simp
            exact hK _ _ (Below.refl _ _) rfl
          · intro vs hl u1 hb hd
            obtain ⟨v0, v1, v2, v3, v4, v5, v6, v7, v8, v9, v10, v11, v12, v13, v14, v15, v16, v17, rfl⟩ := len18 hl
            clear hl
            obtain ⟨kh3, kh2, _⟩ := hd
            obtain rfl : v3 = .bool false := kh3
            obtain rfl : v2 = .int .i64 d := kh2
            intro K hK
            simp only [fs, fo, fz, Act.put, s1, s2, s3] at hK ⊢
            refine ⟨?_⟩
            go_simp
            exact hK _ _ (Below.refl _ _) rfl
          · intro vs hl u1 hb hd
            obtain ⟨v0, v1, v2, v3, v4, v5, v6, v7, v8, v9, v10, v11, v12, v13, v14, v15, v16, v17, rfl⟩ := len18 hl
            clear hl
            obtain ⟨kh4, _⟩ := hd
            obtain rfl : v4 = .bool false := kh4
            intro K hK
            simp only [fs, fo, fz, Act.put, s1, s2, s3] at hK ⊢
            refine ⟨?_⟩
            go_simp
            exact hK _ _ (Below.refl _ _) trivial
          · intro vs hl u1 hb hd
            obtain ⟨v0, v1, v2, v3, v4, v5, v6, v7, v8, v9, v10, v11, v12, v13, v14, v15, v16, v17, rfl⟩ := len18 hl
            clear hl
            obtain ⟨kh4, _⟩ := hd
            obtain rfl : v4 = .bool false := kh4
            intro K hK
            simp only [fs, fo, fz, Act.put, s1, s2, s3] at hK ⊢
            refine ⟨?_⟩
            go_simp
            exact hK _ _ (Below.refl _ _) trivial
          · intro vs hl u1 hb hd
            obtain ⟨v0, v1, v2, v3, v4, v5, v6, v7, v8, v9, v10, v11, v12, v13, v14, v15, v16, v17, rfl⟩ := len18 hl
            clear hl
            obtain ⟨_, _, kh4, _, _⟩ := hd
            obtain rfl : v4 = .bool false := kh4
            intro K hK
            simp only [fs, fo, fz, Act.put, s1, s2, s3] at hK ⊢
            refine ⟨?_⟩
            go_simp
            exact hK _ _ (Below.refl _ _) trivial
          · intro vs hl u1 hb hd
            obtain ⟨v0, v1, v2, v3, v4, v5, v6, v7, v8, v9, v10, v11, v12, v13, v14, v15, v16, v17, rfl⟩ := len18 hl
            clear hl
            obtain ⟨_, _, kh4, _⟩ := hd
            obtain rfl : v4 = .bool false := kh4
            intro K hK
            simp only [fs, fo, fz, Act.put, s1, s2, s3] at hK ⊢
            refine ⟨?_⟩
            go_simp
            exact hK _ _ (Below.refl _ _) trivial
          · intro vs hl u1 hb hd
            obtain ⟨v0, v1, v2, v3, v4, v5, v6, v7, v8, v9, v10, v11, v12, v13, v14, v15, v16, v17, rfl⟩ := len18 hl
            clear hl
            obtain ⟨_, kh4, _⟩ := hd
            obtain rfl : v4 = .bool false := kh4
            intro K hK
            simp only [fs, fo, fz, Act.put, s1, s2, s3] at hK ⊢
            refine ⟨?_⟩
            go_simp
            exact hK _ _ (Below.refl _ _) trivial
          · intro vs hl u1 hb hd
            obtain ⟨v0, v1, v2, v3, v4, v5, v6, v7, v8, v9, v10, v11, v12, v13, v14, v15, v16, v17, rfl⟩ := len18 hl
            clear hl
            obtain ⟨kh4, _⟩ := hd
            obtain rfl : v4 = .bool false := kh4
            intro K hK
            simp only [fs, fo, fz, Act.put, s1, s2, s3] at hK ⊢
            refine ⟨?_⟩
            go_simp
            exact hK _ _ (Below.refl _ _) trivial
          · intro vs hl u1 hb hd
            obtain ⟨v0, v1, v2, v3, v4, v5, v6, v7, v8, v9, v10, v11, v12, v13, v14, v15, v16, v17, rfl⟩ := len18 hl
            clear hl
            obtain ⟨kh4, _⟩ := hd
            obtain rfl : v4 = .bool false := kh4
            intro K hK
            simp only [fs, fo, fz, Act.put, s1, s2, s3] at hK ⊢
            refine ⟨?_⟩
            go_simp
            exact hK _ _ (Below.refl _ _) trivial
          · intro vs hl u1 hb hd
            obtain ⟨v0, v1, v2, v3, v4, v5, v6, v7, v8, v9, v10, v11, v12, v13, v14, v15, v16, v17, rfl⟩ := len18 hl
            clear hl
            obtain ⟨_, _, _, kh4, _⟩ := hd
            obtain rfl : v4 = .bool false := kh4
            intro K hK
            simp only [fs, fo, fz, Act.put, s1, s2, s3] at hK ⊢
            refine ⟨?_⟩
            go_simp
            exact hK _ _ (Below.refl _ _) trivial
          · intro vs hl u1 hb hd
            obtain ⟨v0, v1, v2, v3, v4, v5, v6, v7, v8, v9, v10, v11, v12, v13, v14, v15, v16, v17, rfl⟩ := len18 hl
            clear hl
            obtain ⟨_, _, kh4, _⟩ := hd
            obtain rfl : v4 = .bool false := kh4
            intro K hK
            simp only [fs, fo, fz, Act.put, s1, s2, s3] at hK ⊢
            refine ⟨?_⟩
            go_simp
            exact hK _ _ (Below.refl _ _) trivial
          · intro vs hl u1 hb hd
            obtain ⟨v0, v1, v2, v3, v4, v5, v6, v7, v8, v9, v10, v11, v12, v13, v14, v15, v16, v17, rfl⟩ := len18 hl
            clear hl
            obtain ⟨_, kh4, _⟩ := hd
            obtain rfl : v4 = .bool false := kh4
            intro K hK
            simp only [fs, fo, fz, Act.put, s1, s2, s3] at hK ⊢
            refine ⟨?_⟩
            go_simp
            exact hK _ _ (Below.refl _ _) trivial
          · intro vs hl u1 hb hd
            obtain ⟨v0, v1, v2, v3, v4, v5, v6, v7, v8, v9, v10, v11, v12, v13, v14, v15, v16, v17, rfl⟩ := len18 hl
            clear hl
            obtain ⟨_, _, kh4, _⟩ := hd
            obtain rfl : v4 = .bool false := kh4
            intro K hK
            simp only [fs, fo, fz, Act.put, s1, s2, s3] at hK ⊢
            refine ⟨?_⟩
            go_simp
            exact hK _ _ (Below.refl _ _) trivial
          · intro vs hl u1 hb hd
            obtain ⟨v0, v1, v2, v3, v4, v5, v6, v7, v8, v9, v10, v11, v12, v13, v14, v15, v16, v17, rfl⟩ := len18 hl
            clear hl
            obtain ⟨kh4, _, _⟩ := hd
            obtain rfl : v4 = .bool false := kh4
            intro K hK
            simp only [fs, fo, fz, Act.put, s1, s2, s3] at hK ⊢
            refine ⟨?_⟩
            go_simp
            exact hK _ _ (Below.refl _ _) rfl
          · intro vs hl u1 hb hd
            obtain ⟨v0, v1, v2, v3, v4, v5, v6, v7, v8, v9, v10, v11, v12, v13, v14, v15, v16, v17, rfl⟩ := len18 hl
            clear hl
            obtain ⟨kh16, _, kh0, kh1, kh2, kh3, kh4, _, _, _, _, _, _, _, _, _, _, _, _, _⟩ := hd
            obtain rfl : v16 = .bool false := kh16
            obtain rfl : v0 = .agg #[.int .i64 x, .int .i64 y] := kh0
            obtain rfl : v1 = .agg #[.int .i64 b2, .int .i64 b3] := kh1
            obtain rfl : v2 = .int .i64 d := kh2
            obtain rfl : v3 = .bool false := kh3
            obtain rfl : v4 = .bool false := kh4
            intro K hK
            simp only [fs, fo, fz, Act.put, s1, s2, s3] at hK ⊢
            refine ⟨?_⟩
            go_simp
            exact hK _ _ (Below.refl _ _) rfl
          · intro vs hl w4 hb hd ha
            obtain ⟨v0, v1, v2, v3, v4, v5, v6, v7, v8, v9, v10, v11, v12, v13, v14, v15, v16, v17, rfl⟩ := len18 hl
            clear hl
            obtain ⟨kh0, kh1, kh2, kh3, kh4, _, _, _, _, _, _, _, _, _, _, _, kh16, kh17, _⟩ := hd
            obtain rfl : v0 = .agg #[.int .i64 x, .int .i64 y] := kh0
            obtain rfl : v1 = .agg #[.int .i64 b2, .int .i64 b3] := kh1
            obtain rfl : v2 = .int .i64 d := kh2
            obtain rfl : v3 = .bool false := kh3
            obtain rfl : v4 = .bool false := kh4
            obtain rfl : v16 = .bool false := kh16
            obtain rfl : v17 = .bool false := kh17
            clear ha
            simp only [fs, fo, fz, Act.put, s1, s2, s3]
            replace BA := BA.below hb
            replace BB := BB.below hb
            replace B5 := B5.below hb
            replace B6 := B6.below hb
            replace HB := Aside0.mk (HB.out.trans ((Below.trans (show Below w3.heap.size w3 w3.drew from pw_below_drewN (Below.refl _ _) 1) hb).mono HB.out.size))
            clear hb
            go_wp2
            go_ret
            exact ⟨by first | rfl | (simp only [hp0]; rfl), HB.out⟩
        case true =>
          replace BA := BA.drew
          replace BB := BB.drew
          replace B5 := B5.drew
          replace B6 := B6.drew
          refine region_sp (by kernel_rfl) [some 20, some 21, some 22, some 23, some 24, some 25, some 26, some 27, some 28, some 29, some 30, some 31, some 32, some 33, some 34, some 35, some 36, some 4] [undef, undef, undef, undef, undef, undef, undef, undef, undef, undef, undef, undef, undef, undef, undef, undef, undef, .bool false] [Sp.val (fun v => v = .agg #[.int .i64 x, .int .i64 y]), Sp.val (fun v => v = .agg #[.int .i64 b2, .int .i64 b3]), Sp.val (fun v => v = .int .i64 d), Sp.val (fun v => v = .bool true), Sp.val (fun v => v = .bool true), Sp.val (fun v => v = .agg #[.int .i64 x, .int .i64 y]), Sp.val (fun v => v = .agg #[.int .i64 b2, .int .i64 b3]), Sp.val (fun v => v = .int .i64 c), Sp.val (fun v => v = .int .u64 q1), Sp.val (fun v => v = .int .u64 (IntKind.u64.wrap (q1 * 5))), Sp.val (fun v => v = .agg #[.int .i64 x, .int .i64 y]), Sp.val (fun v => v = .agg #[.int .i64 b2, .int .i64 b3]), Sp.val (fun v => v = .int .i64 d), Sp.val (fun v => v = .int .u64 q2), Sp.val (fun v => v = .int .u64 (IntKind.u64.wrap (q2 * 29))), Sp.val (fun v => v = .bool (decide (IntKind.u64.wrap (q1 * 5) ≤ IntKind.u64.wrap (q2 * 29)))), Sp.val (fun v => v = .bool (decide (IntKind.u64.wrap (q1 * 5) ≤ IntKind.u64.wrap (q2 * 29)))), Sp.val (fun v => v = .bool (decide (IntKind.u64.wrap (q1 * 5) ≤ IntKind.u64.wrap (q2 * 29))))] (by kernel_rfl) rfl (by kernel_rfl) ⟨?_, ?_, ?_, ?_, ?_, ?_, ?_, ?_, ?_, ?_, ?_, ?_, ?_, ?_, ?_, ?_, ?_, ?_, trivial⟩ ?_
          · intro vs hl u1 hb hd
            obtain ⟨v0, v1, v2, v3, v4, v5, v6, v7, v8, v9, v10, v11, v12, v13, v14, v15, v16, v17, rfl⟩ := len18 hl
            clear hl
            intro K hK
            obtain ⟨l0, l1⟩ := (B5.below hb).two
            simp only [fs, fo, fz, Act.put, s1, s2, s3] at hK ⊢
            refine ⟨?_⟩
            go_simp
            exact hK _ _ (Below.refl _ _) rfl
          · intro vs hl u1 hb hd
            obtain ⟨v0, v1, v2, v3, v4, v5, v6, v7, v8, v9, v10, v11, v12, v13, v14, v15, v16, v17, rfl⟩ := len18 hl
            clear hl
            intro K hK
            obtain ⟨l0, l1⟩ := (B6.below hb).two
            simp only [fs, fo, fz, Act.put, s1, s2, s3] at hK ⊢
            refine ⟨?_⟩
            go_simp
            exact hK _ _ (Below.refl _ _) rfl
          · intro vs hl u1 hb hd
            obtain ⟨v0, v1, v2, v3, v4, v5, v6, v7, v8, v9, v10, v11, v12, v13, v14, v15, v16, v17, rfl⟩ := len18 hl
            clear hl
            obtain ⟨kh0, kh1, _⟩ := hd
            obtain rfl : v0 = .agg #[.int .i64 x, .int .i64 y] := kh0
            obtain rfl : v1 = .agg #[.int .i64 b2, .int .i64 b3] := kh1
            intro K hK
            simp only [fs, fo, fz, Act.put, s1, s2, s3] at hK ⊢
            refine ⟨?_⟩
            go_simp
            refine (Hydt.out _).mono ?_
            rintro e w2 ⟨rfl, hb2⟩
            exact hK _ _ hb2 rfl
          · intro vs hl u1 hb hd
            obtain ⟨v0, v1, v2, v3, v4, v5, v6, v7, v8, v9, v10, v11, v12, v13, v14, v15, v16, v17, rfl⟩ := len18 hl
            clear hl
            obtain ⟨kh2, _⟩ := hd
            obtain rfl : v2 = .int .i64 d := kh2
            intro K hK
            simp only [fs, fo, fz, Act.put, s1, s2, s3] at hK ⊢
            refine ⟨?_⟩
            go_simp
            exact hK _ _ (Below.refl _ _) rfl
          · intro vs hl u1 hb hd
            obtain ⟨v0, v1, v2, v3, v4, v5, v6, v7, v8, v9, v10, v11, v12, v13, v14, v15, v16, v17, rfl⟩ := len18 hl
            clear hl
            obtain ⟨kh3, kh2, _⟩ := hd
            obtain rfl : v3 = .bool true := kh3
            obtain rfl : v2 = .int .i64 d := kh2
            intro K hK
            simp only [fs, fo, fz, Act.put, s1, s2, s3] at hK ⊢
            refine ⟨?_⟩
            go_simp
            exact hK _ _ (Below.refl _ _) rfl
          · intro vs hl u1 hb hd
            obtain ⟨v0, v1, v2, v3, v4, v5, v6, v7, v8, v9, v10, v11, v12, v13, v14, v15, v16, v17, rfl⟩ := len18 hl
            clear hl
            obtain ⟨kh4, _⟩ := hd
            obtain rfl : v4 = .bool true := kh4
            intro K hK
            obtain ⟨l0, l1⟩ := (B5.below hb).two
            simp only [fs, fo, fz, Act.put, s1, s2, s3] at hK ⊢
            refine ⟨?_⟩
            go_simp
            exact hK _ _ (Below.refl _ _) rfl
          · intro vs hl u1 hb hd
            obtain ⟨v0, v1, v2, v3, v4, v5, v6, v7, v8, v9, v10, v11, v12, v13, v14, v15, v16, v17, rfl⟩ := len18 hl
            clear hl
            obtain ⟨kh4, _⟩ := hd
            obtain rfl : v4 = .bool true := kh4
            intro K hK
            obtain ⟨l0, l1⟩ := (B6.below hb).two
            simp only [fs, fo, fz, Act.put, s1, s2, s3] at hK ⊢
            refine ⟨?_⟩
            go_simp
            exact hK _ _ (Below.refl _ _) rfl
          · intro vs hl u1 hb hd
            obtain ⟨v0, v1, v2, v3, v4, v5, v6, v7, v8, v9, v10, v11, v12, v13, v14, v15, v16, v17, rfl⟩ := len18 hl
            clear hl
            obtain ⟨kh5, kh6, kh4, _, _⟩ := hd
            obtain rfl : v5 = .agg #[.int .i64 x, .int .i64 y] := kh5
            obtain rfl : v6 = .agg #[.int .i64 b2, .int .i64 b3] := kh6
            obtain rfl : v4 = .bool true := kh4
            intro K hK
            simp only [fs, fo, fz, Act.put, s1, s2, s3] at hK ⊢
            refine ⟨?_⟩
            go_simp
            refine (Hycr.out _).mono ?_
            rintro e w2 ⟨rfl, hb2⟩
            exact hK _ _ hb2 rfl
          · intro vs hl u1 hb hd
            obtain ⟨v0, v1, v2, v3, v4, v5, v6, v7, v8, v9, v10, v11, v12, v13, v14, v15, v16, v17, rfl⟩ := len18 hl
            clear hl
            obtain ⟨kh7, _, kh4, _⟩ := hd
            obtain rfl : v7 = .int .i64 c := kh7
            obtain rfl : v4 = .bool true := kh4
            intro K hK
            simp only [fs, fo, fz, Act.put, s1, s2, s3] at hK ⊢
            refine ⟨?_⟩
            go_simp
            refine (Hysc.out _).mono ?_
            rintro e w2 ⟨rfl, hb2⟩
            exact hK _ _ hb2 rfl
          · intro vs hl u1 hb hd
            obtain ⟨v0, v1, v2, v3, v4, v5, v6, v7, v8, v9, v10, v11, v12, v13, v14, v15, v16, v17, rfl⟩ := len18 hl
            clear hl
            obtain ⟨kh8, kh4, _⟩ := hd
            obtain rfl : v8 = .int .u64 q1 := kh8
            obtain rfl : v4 = .bool true := kh4
            intro K hK
            simp only [fs, fo, fz, Act.put, s1, s2, s3] at hK ⊢
            refine ⟨?_⟩
            go_simp
            exact hK _ _ (Below.refl _ _) rfl
          · intro vs hl u1 hb hd
            obtain ⟨v0, v1, v2, v3, v4, v5, v6, v7, v8, v9, v10, v11, v12, v13, v14, v15, v16, v17, rfl⟩ := len18 hl
            clear hl
            obtain ⟨kh4, _⟩ := hd
            obtain rfl : v4 = .bool true := kh4
            intro K hK
            obtain ⟨l0, l1⟩ := (B5.below hb).two
            simp only [fs, fo, fz, Act.put, s1, s2, s3] at hK ⊢
            refine ⟨?_⟩
            go_simp
            exact hK _ _ (Below.refl _ _) rfl
          · intro vs hl u1 hb hd
            obtain ⟨v0, v1, v2, v3, v4, v5, v6, v7, v8, v9, v10, v11, v12, v13, v14, v15, v16, v17, rfl⟩ := len18 hl
            clear hl
            obtain ⟨kh4, _⟩ := hd
            obtain rfl : v4 = .bool true := kh4
            intro K hK
            obtain ⟨l0, l1⟩ := (B6.below hb).two
            simp only [fs, fo, fz, Act.put, s1, s2, s3] at hK ⊢
            refine ⟨?_⟩
            go_simp
            exact hK _ _ (Below.refl _ _) rfl
          · intro vs hl u1 hb hd
            obtain ⟨v0, v1, v2, v3, v4, v5, v6, v7, v8, v9, v10, v11, v12, v13, v14, v15, v16, v17, rfl⟩ := len18 hl
            clear hl
            obtain ⟨kh10, kh11, kh8, kh4, _⟩ := hd
            obtain rfl : v10 = .agg #[.int .i64 x, .int .i64 y] := kh10
            obtain rfl : v11 = .agg #[.int .i64 b2, .int .i64 b3] := kh11
            obtain rfl : v8 = .int .u64 q1 := kh8
            obtain rfl : v4 = .bool true := kh4
            intro K hK
            simp only [fs, fo, fz, Act.put, s1, s2, s3] at hK ⊢
            refine ⟨?_⟩
            go_simp
            refine (Hydt.out _).mono ?_
            rintro e w2 ⟨rfl, hb2⟩
            exact hK _ _ hb2 rfl
          · intro vs hl u1 hb hd
            obtain ⟨v0, v1, v2, v3, v4, v5, v6, v7, v8, v9, v10, v11, v12, v13, v14, v15, v16, v17, rfl⟩ := len18 hl
            clear hl
            obtain ⟨kh12, _, kh4, _⟩ := hd
            obtain rfl : v12 = .int .i64 d := kh12
            obtain rfl : v4 = .bool true := kh4
            intro K hK
            simp only [fs, fo, fz, Act.put, s1, s2, s3] at hK ⊢
            refine ⟨?_⟩
            go_simp
            refine (Hysd.out _).mono ?_
            rintro e w2 ⟨rfl, hb2⟩
            exact hK _ _ hb2 rfl
          · intro vs hl u1 hb hd
            obtain ⟨v0, v1, v2, v3, v4, v5, v6, v7, v8, v9, v10, v11, v12, v13, v14, v15, v16, v17, rfl⟩ := len18 hl
            clear hl
            obtain ⟨kh13, kh4, _⟩ := hd
            obtain rfl : v13 = .int .u64 q2 := kh13
            obtain rfl : v4 = .bool true := kh4
            intro K hK
            simp only [fs, fo, fz, Act.put, s1, s2, s3] at hK ⊢
            refine ⟨?_⟩
            go_simp
            exact hK _ _ (Below.refl _ _) rfl
          · intro vs hl u1 hb hd
            obtain ⟨v0, v1, v2, v3, v4, v5, v6, v7, v8, v9, v10, v11, v12, v13, v14, v15, v16, v17, rfl⟩ := len18 hl
            clear hl
            obtain ⟨kh9, kh14, kh4, _⟩ := hd
            obtain rfl : v9 = .int .u64 (IntKind.u64.wrap (q1 * 5)) := kh9
            obtain rfl : v14 = .int .u64 (IntKind.u64.wrap (q2 * 29)) := kh14
            obtain rfl : v4 = .bool true := kh4
            intro K hK
            simp only [fs, fo, fz, Act.put, s1, s2, s3] at hK ⊢
            refine ⟨?_⟩
            go_simp
            exact hK _ _ (Below.refl _ _) rfl
          · intro vs hl u1 hb hd
            obtain ⟨v0, v1, v2, v3, v4, v5, v6, v7, v8, v9, v10, v11, v12, v13, v14, v15, v16, v17, rfl⟩ := len18 hl
            clear hl
            obtain ⟨kh4, kh15, _⟩ := hd
            obtain rfl : v4 = .bool true := kh4
            obtain rfl : v15 = .bool (decide (IntKind.u64.wrap (q1 * 5) ≤ IntKind.u64.wrap (q2 * 29))) := kh15
            intro K hK
            simp only [fs, fo, fz, Act.put, s1, s2, s3] at hK ⊢
            refine ⟨?_⟩
            go_simp
            exact hK _ _ (Below.refl _ _) rfl
          · intro vs hl u1 hb hd
            obtain ⟨v0, v1, v2, v3, v4, v5, v6, v7, v8, v9, v10, v11, v12, v13, v14, v15, v16, v17, rfl⟩ := len18 hl
            clear hl
            obtain ⟨kh16, kh13, kh0, kh1, kh2, kh3, kh4, kh5, kh6, kh7, kh8, kh9, kh10, kh11, kh12, _, kh14, kh15, _, _⟩ := hd
            obtain rfl : v16 = .bool (decide (IntKind.u64.wrap (q1 * 5) ≤ IntKind.u64.wrap (q2 * 29))) := kh16
            obtain rfl : v13 = .int .u64 q2 := kh13
            obtain rfl : v0 = .agg #[.int .i64 x, .int .i64 y] := kh0
            obtain rfl : v1 = .agg #[.int .i64 b2, .int .i64 b3] := kh1
            obtain rfl : v2 = .int .i64 d := kh2
            obtain rfl : v3 = .bool true := kh3
            obtain rfl : v4 = .bool true := kh4
            obtain rfl : v5 = .agg #[.int .i64 x, .int .i64 y] := kh5
            obtain rfl : v6 = .agg #[.int .i64 b2, .int .i64 b3] := kh6
            obtain rfl : v7 = .int .i64 c := kh7
            obtain rfl : v8 = .int .u64 q1 := kh8
            obtain rfl : v9 = .int .u64 (IntKind.u64.wrap (q1 * 5)) := kh9
            obtain rfl : v10 = .agg #[.int .i64 x, .int .i64 y] := kh10
            obtain rfl : v11 = .agg #[.int .i64 b2, .int .i64 b3] := kh11
            obtain rfl : v12 = .int .i64 d := kh12
            obtain rfl : v14 = .int .u64 (IntKind.u64.wrap (q2 * 29)) := kh14
            obtain rfl : v15 = .bool (decide (IntKind.u64.wrap (q1 * 5) ≤ IntKind.u64.wrap (q2 * 29))) := kh15
            intro K hK
            simp only [fs, fo, fz, Act.put, s1, s2, s3] at hK ⊢
            refine ⟨?_⟩
            go_simp
            exact hK _ _ (Below.refl _ _) rfl
          · intro vs hl w4 hb hd ha
            obtain ⟨v0, v1, v2, v3, v4, v5, v6, v7, v8, v9, v10, v11, v12, v13, v14, v15, v16, v17, rfl⟩ := len18 hl
            clear hl
            obtain ⟨kh0, kh1, kh2, kh3, kh4, kh5, kh6, kh7, kh8, kh9, kh10, kh11, kh12, kh13, kh14, kh15, kh16, kh17, _⟩ := hd
            obtain rfl : v0 = .agg #[.int .i64 x, .int .i64 y] := kh0
            obtain rfl : v1 = .agg #[.int .i64 b2, .int .i64 b3] := kh1
            obtain rfl : v2 = .int .i64 d := kh2
            obtain rfl : v3 = .bool true := kh3
            obtain rfl : v4 = .bool true := kh4
            obtain rfl : v5 = .agg #[.int .i64 x, .int .i64 y] := kh5
            obtain rfl : v6 = .agg #[.int .i64 b2, .int .i64 b3] := kh6
            obtain rfl : v7 = .int .i64 c := kh7
            obtain rfl : v8 = .int .u64 q1 := kh8
            obtain rfl : v9 = .int .u64 (IntKind.u64.wrap (q1 * 5)) := kh9
            obtain rfl : v10 = .agg #[.int .i64 x, .int .i64 y] := kh10
            obtain rfl : v11 = .agg #[.int .i64 b2, .int .i64 b3] := kh11
            obtain rfl : v12 = .int .i64 d := kh12
            obtain rfl : v13 = .int .u64 q2 := kh13
            obtain rfl : v14 = .int .u64 (IntKind.u64.wrap (q2 * 29)) := kh14
            obtain rfl : v15 = .bool (decide (IntKind.u64.wrap (q1 * 5) ≤ IntKind.u64.wrap (q2 * 29))) := kh15
            obtain rfl : v16 = .bool (decide (IntKind.u64.wrap (q1 * 5) ≤ IntKind.u64.wrap (q2 * 29))) := kh16
            obtain rfl : v17 = .bool (decide (IntKind.u64.wrap (q1 * 5) ≤ IntKind.u64.wrap (q2 * 29))) := kh17
            clear ha
            simp only [fs, fo, fz, Act.put, s1, s2, s3]
            replace BA := BA.below hb
            replace BB := BB.below hb
            replace B5 := B5.below hb
            replace B6 := B6.below hb
            replace HB := Aside0.mk (HB.out.trans ((Below.trans (show Below w3.heap.size w3 w3.drew from pw_below_drewN (Below.refl _ _) 1) hb).mono HB.out.size))
            clear hb
            go_wp2
            go_ret
            exact ⟨by first | rfl | (simp only [hp0]; rfl), HB.out⟩
set_option maxHeartbeats 8000000 in
set_option maxRecDepth 100000 in
theorem headon_any (a0 a1 a2 a3 a4 a5 b0 b1 b2 b3 b4 b5 d c : Int) (s1 s2 le h1 h2 : Bool) (w : World)
    (yok1 : ∀ W : World, Calls Try.prog 15 #[.agg #[.int .i64 a0, .int .i64 a1, .int .i64 a2, .int .i64 a3, .int .i64 a4, .int .i64 a5]] W fun e w' => e = .returned (.bool s1) ∧ Below W.heap.size W w')
    (yok2 : ∀ W : World, Calls Try.prog 15 #[.agg #[.int .i64 b0, .int .i64 b1, .int .i64 b2, .int .i64 b3, .int .i64 b4, .int .i64 b5]] W fun e w' => e = .returned (.bool s2) ∧ Below W.heap.size W w')
    (ywa : ∀ W : World, Calls Try.prog 66 #[.agg #[.int .i64 a0, .int .i64 a1, .int .i64 a2, .int .i64 a3, .int .i64 a4, .int .i64 a5]] W fun e w' => e = .returned (.agg #[.int .i64 a2, .int .i64 a3]) ∧ Below W.heap.size W w')
    (ywb : ∀ W : World, Calls Try.prog 66 #[.agg #[.int .i64 b0, .int .i64 b1, .int .i64 b2, .int .i64 b3, .int .i64 b4, .int .i64 b5]] W fun e w' => e = .returned (.agg #[.int .i64 b2, .int .i64 b3]) ∧ Below W.heap.size W w')
    (ydt : ∀ W : World, Calls Try.prog 68 #[.agg #[.int .i64 a2, .int .i64 a3], .agg #[.int .i64 b2, .int .i64 b3]] W fun e w' => e = .returned (.int .i64 d) ∧ Below W.heap.size W w')
    (ycr : ∀ W : World, Calls Try.prog 67 #[.agg #[.int .i64 a2, .int .i64 a3], .agg #[.int .i64 b2, .int .i64 b3]] W fun e w' => e = .returned (.int .i64 c) ∧ Below W.heap.size W w')
    (yle : ∀ W : World, Calls Try.prog 69 #[.int .i64 c, .int .i64 100, .int .i64 d, .int .i64 1] W fun e w' => e = .returned (.bool le) ∧ Below W.heap.size W w')
    (yh1 : ∀ W : World, Calls Try.prog 75 #[.agg #[.int .i64 a0, .int .i64 a1, .int .i64 a2, .int .i64 a3, .int .i64 a4, .int .i64 a5], .agg #[.int .i64 b0, .int .i64 b1, .int .i64 b2, .int .i64 b3, .int .i64 b4, .int .i64 b5]] W fun e w' => e = .returned (.bool h1) ∧ Below W.heap.size W w')
    (yh2 : ∀ W : World, Calls Try.prog 75 #[.agg #[.int .i64 b0, .int .i64 b1, .int .i64 b2, .int .i64 b3, .int .i64 b4, .int .i64 b5], .agg #[.int .i64 a0, .int .i64 a1, .int .i64 a2, .int .i64 a3, .int .i64 a4, .int .i64 a5]] W fun e w' => e = .returned (.bool h2) ∧ Below W.heap.size W w') :
    Calls Try.prog 30 #[.agg #[.int .i64 a0, .int .i64 a1, .int .i64 a2, .int .i64 a3, .int .i64 a4, .int .i64 a5], .agg #[.int .i64 b0, .int .i64 b1, .int .i64 b2, .int .i64 b3, .int .i64 b4, .int .i64 b5]] w fun e w' => e = .returned (.bool (s1 && s2 && (decide (d < 0) && le && h1 && h2))) ∧ Below w.heap.size w w' := by
  have Hyok1 := Aside0.mk yok1
  have Hyok2 := Aside0.mk yok2
  have Hywa := Aside0.mk ywa
  have Hywb := Aside0.mk ywb
  have Hydt := Aside0.mk ydt
  have Hycr := Aside0.mk ycr
  have Hyle := Aside0.mk yle
  have Hyh1 := Aside0.mk yh1
  have Hyh2 := Aside0.mk yh2
  clear yok1 yok2 ywa ywb ydt ycr yle yh1 yh2
  go_enter Try.func30, Try.ntmps30
  go_upto_region 1 with fail
  have BA : Blk ((w.alloc (.cells #[.int .i64 a0, .int .i64 a1, .int .i64 a2, .int .i64 a3, .int .i64 a4, .int .i64 a5] 25)).alloc (.cells #[.int .i64 b0, .int .i64 b1, .int .i64 b2, .int .i64 b3, .int .i64 b4, .int .i64 b5] 25)) (w.heap.size) 25 #[.int .i64 a0, .int .i64 a1, .int .i64 a2, .int .i64 a3, .int .i64 a4, .int .i64 a5] := (Blk.new w 25 #[.int .i64 a0, .int .i64 a1, .int .i64 a2, .int .i64 a3, .int .i64 a4, .int .i64 a5]).alloc (.cells #[.int .i64 b0, .int .i64 b1, .int .i64 b2, .int .i64 b3, .int .i64 b4, .int .i64 b5] 25)
  have BB : Blk ((w.alloc (.cells #[.int .i64 a0, .int .i64 a1, .int .i64 a2, .int .i64 a3, .int .i64 a4, .int .i64 a5] 25)).alloc (.cells #[.int .i64 b0, .int .i64 b1, .int .i64 b2, .int .i64 b3, .int .i64 b4, .int .i64 b5] 25)) (w.heap.size + 1) 25 #[.int .i64 b0, .int .i64 b1, .int .i64 b2, .int .i64 b3, .int .i64 b4, .int .i64 b5] := Blk.newAt 25 #[.int .i64 b0, .int .i64 b1, .int .i64 b2, .int .i64 b3, .int .i64 b4, .int .i64 b5] (by simp)
  have hb0 : Below w.heap.size w ((w.alloc (.cells #[.int .i64 a0, .int .i64 a1, .int .i64 a2, .int .i64 a3, .int .i64 a4, .int .i64 a5] 25)).alloc (.cells #[.int .i64 b0, .int .i64 b1, .int .i64 b2, .int .i64 b3, .int .i64 b4, .int .i64 b5] 25)) := ((Below.refl w.heap.size w).alloc (by simp) (.cells #[.int .i64 a0, .int .i64 a1, .int .i64 a2, .int .i64 a3, .int .i64 a4, .int .i64 a5] 25)).alloc (by simp) (.cells #[.int .i64 b0, .int .i64 b1, .int .i64 b2, .int .i64 b3, .int .i64 b4, .int .i64 b5] 25)
  generalize ((w.alloc (.cells #[.int .i64 a0, .int .i64 a1, .int .i64 a2, .int .i64 a3, .int .i64 a4, .int .i64 a5] 25)).alloc (.cells #[.int .i64 b0, .int .i64 b1, .int .i64 b2, .int .i64 b3, .int .i64 b4, .int .i64 b5] 25)) = W0 at BA BB hb0 ⊢
  have HB := Aside0.mk hb0
  clear hb0
  obtain ⟨qBA0, qBA1, qBA2, qBA3, qBA4, qBA5⟩ := BA.six
  have zBA := BA.lt
  obtain ⟨qBB0, qBB1, qBB2, qBB3, qBB4, qBB5⟩ := BB.six
  have zBB := BB.lt
  go_wp2_with fail
  refine (Hyok1.out _).mono ?_
  rintro e w1 ⟨rfl, hb⟩
  clear qBA0 qBA1 qBA2 qBA3 qBA4 qBA5 zBA
  clear qBB0 qBB1 qBB2 qBB3 qBB4 qBB5 zBB
  replace BA := BA.below hb
  replace BB := BB.below hb
  replace HB := Aside0.mk (HB.out.trans (hb.mono HB.out.size))
  clear hb
  cases s1
  case false =>
    obtain ⟨qBA0, qBA1, qBA2, qBA3, qBA4, qBA5⟩ := BA.six
    have zBA := BA.lt
    obtain ⟨qBB0, qBB1, qBB2, qBB3, qBB4, qBB5⟩ := BB.six
    have zBB := BB.lt
    go_wp2
    go_ret
    exact ⟨rfl, HB.out⟩
  case true =>
    obtain ⟨qBA0, qBA1, qBA2, qBA3, qBA4, qBA5⟩ := BA.six
    have zBA := BA.lt
    obtain ⟨qBB0, qBB1, qBB2, qBB3, qBB4, qBB5⟩ := BB.six
    have zBB := BB.lt
    go_wp2_with fail
    refine (Hyok2.out _).mono ?_
    rintro e w2 ⟨rfl, hb⟩
    clear qBA0 qBA1 qBA2 qBA3 qBA4 qBA5 zBA
    clear qBB0 qBB1 qBB2 qBB3 qBB4 qBB5 zBB
    replace BA := BA.below hb
    replace BB := BB.below hb
    replace HB := Aside0.mk (HB.out.trans (hb.mono HB.out.size))
    clear hb
    cases s2
    case false =>
      obtain ⟨qBA0, qBA1, qBA2, qBA3, qBA4, qBA5⟩ := BA.six
      have zBA := BA.lt
      obtain ⟨qBB0, qBB1, qBB2, qBB3, qBB4, qBB5⟩ := BB.six
      have zBB := BB.lt
      go_wp2
      go_ret
      exact ⟨rfl, HB.out⟩
    case true =>
      obtain ⟨qBA0, qBA1, qBA2, qBA3, qBA4, qBA5⟩ := BA.six
      have zBA := BA.lt
      obtain ⟨qBB0, qBB1, qBB2, qBB3, qBB4, qBB5⟩ := BB.six
      have zBB := BB.lt
      go_upto_region 3 with fail
      clear qBA0 qBA1 qBA2 qBA3 qBA4 qBA5 zBA
      clear qBB0 qBB1 qBB2 qBB3 qBB4 qBB5 zBB
      replace BA := BA.drew
      replace BB := BB.drew
      refine region_sp (by kernel_rfl) [some 15, some 16, some 17, some 18, some 5, some 6, none, none] [undef, undef, undef, undef, undef, undef, undef, undef] [Sp.val (fun v => v = .agg #[.int .i64 a0, .int .i64 a1, .int .i64 a2, .int .i64 a3, .int .i64 a4, .int .i64 a5]), Sp.val (fun v => v = .agg #[.int .i64 a2, .int .i64 a3]), Sp.val (fun v => v = .agg #[.int .i64 b0, .int .i64 b1, .int .i64 b2, .int .i64 b3, .int .i64 b4, .int .i64 b5]), Sp.val (fun v => v = .agg #[.int .i64 b2, .int .i64 b3]), Sp.new 83 #[.int .i64 0, .int .i64 0] 6 (fun cs => cs = #[.int .i64 a2, .int .i64 a3]), Sp.new 83 #[.int .i64 0, .int .i64 0] 7 (fun cs => cs = #[.int .i64 b2, .int .i64 b3]), Sp.put 4, Sp.put 5] (by kernel_rfl) rfl (by kernel_rfl) ⟨?_, ?_, ?_, ?_, ?_, ?_, ?_, ?_, trivial⟩ ?_
      · intro vs hl u1 hb hd
        obtain ⟨v0, v1, v2, v3, v4, v5, v6, v7, rfl⟩ := len8 hl
        clear hl
        intro K hK
        obtain ⟨l0, l1, l2, l3, l4, l5⟩ := (BA.below hb).six
        simp only [fs, fo, fz, Act.put, s1, s2, s3] at hK ⊢
        refine ⟨?_⟩
        go_simp
        exact hK _ _ (Below.refl _ _) rfl
      · intro vs hl u1 hb hd
        obtain ⟨v0, v1, v2, v3, v4, v5, v6, v7, rfl⟩ := len8 hl
        clear hl
        obtain ⟨kh0, _⟩ := hd
        obtain rfl : v0 = .agg #[.int .i64 a0, .int .i64 a1, .int .i64 a2, .int .i64 a3, .int .i64 a4, .int .i64 a5] := kh0
        intro K hK
        simp only [fs, fo, fz, Act.put, s1, s2, s3] at hK ⊢
        refine ⟨?_⟩
        go_simp
        refine (Hywa.out _).mono ?_
        rintro e w2 ⟨rfl, hb2⟩
        exact hK _ _ hb2 rfl
      · intro vs hl u1 hb hd
        obtain ⟨v0, v1, v2, v3, v4, v5, v6, v7, rfl⟩ := len8 hl
        clear hl
        intro K hK
        obtain ⟨l0, l1, l2, l3, l4, l5⟩ := (BB.below hb).six
        simp only [fs, fo, fz, Act.put, s1, s2, s3] at hK ⊢
        refine ⟨?_⟩
        go_simp
        exact hK _ _ (Below.refl _ _) rfl
      · intro vs hl u1 hb hd
        obtain ⟨v0, v1, v2, v3, v4, v5, v6, v7, rfl⟩ := len8 hl
        clear hl
        obtain ⟨kh2, kh1, _⟩ := hd
        obtain rfl : v2 = .agg #[.int .i64 b0, .int .i64 b1, .int .i64 b2, .int .i64 b3, .int .i64 b4, .int .i64 b5] := kh2
        obtain rfl : v1 = .agg #[.int .i64 a2, .int .i64 a3] := kh1
        intro K hK
        simp only [fs, fo, fz, Act.put, s1, s2, s3] at hK ⊢
        refine ⟨?_⟩
        go_simp
        refine (Hywb.out _).mono ?_
        rintro e w2 ⟨rfl, hb2⟩
        exact hK _ _ hb2 rfl
      · intro vs hl u1 hb hd
        obtain ⟨v0, v1, v2, v3, v4, v5, v6, v7, rfl⟩ := len8 hl
        clear hl
        intro K hK
        simp only [fs, fo, fz, Act.put, s1, s2, s3] at hK ⊢
        refine ⟨?_⟩
        go_simp
        exact hK
      · intro vs hl u1 hb hd
        obtain ⟨v0, v1, v2, v3, v4, v5, v6, v7, rfl⟩ := len8 hl
        clear hl
        intro K hK
        simp only [fs, fo, fz, Act.put, s1, s2, s3] at hK ⊢
        refine ⟨?_⟩
        go_simp
        exact hK
      · intro vs hl u1 hb hd
        obtain ⟨v0, v1, v2, v3, v4, v5, v6, v7, rfl⟩ := len8 hl
        clear hl
        obtain ⟨kh4, kh1, kh3, kh0, _, _, kh5, _⟩ := hd
        obtain ⟨g3_4, rfl, ka4, kb4, kc4, kd4, ke4⟩ := kh4
        obtain rfl : v1 = .agg #[.int .i64 a2, .int .i64 a3] := kh1
        obtain rfl : v3 = .agg #[.int .i64 b2, .int .i64 b3] := kh3
        obtain rfl : v0 = .agg #[.int .i64 a0, .int .i64 a1, .int .i64 a2, .int .i64 a3, .int .i64 a4, .int .i64 a5] := kh0
        obtain ⟨g3_5, rfl, ka5, kb5, kc5, kd5, ke5⟩ := kh5
        intro g hg hcs K hK
        cases hg
        obtain ⟨l0, l1⟩ := (Blk.mk hcs).two
        have m0 := (Blk.mk hcs).free 0
        have m1 := (Blk.mk hcs).free 1
        simp only [fs, fo, fz, Act.put, s1, s2, s3] at hK ⊢
        refine ⟨?_⟩
        go_simp
        exact hK _ (filled2 hcs rfl)
      · intro vs hl u1 hb hd
        obtain ⟨v0, v1, v2, v3, v4, v5, v6, v7, rfl⟩ := len8 hl
        clear hl
        obtain ⟨kh5, kh3, _, kh0, kh1, kh2, _, kh4, _, _, _⟩ := hd
        obtain ⟨g3_5, rfl, ka5, kb5, kc5, kd5, ke5⟩ := kh5
        obtain rfl : v3 = .agg #[.int .i64 b2, .int .i64 b3] := kh3
        obtain rfl : v0 = .agg #[.int .i64 a0, .int .i64 a1, .int .i64 a2, .int .i64 a3, .int .i64 a4, .int .i64 a5] := kh0
        obtain rfl : v1 = .agg #[.int .i64 a2, .int .i64 a3] := kh1
        obtain rfl : v2 = .agg #[.int .i64 b0, .int .i64 b1, .int .i64 b2, .int .i64 b3, .int .i64 b4, .int .i64 b5] := kh2
        obtain ⟨g3_4, rfl, ka4, kb4, kc4, kd4, ke4⟩ := kh4
        intro g hg hcs K hK
        cases hg
        obtain ⟨l0, l1⟩ := (Blk.mk hcs).two
        have m0 := (Blk.mk hcs).free 0
        have m1 := (Blk.mk hcs).free 1
        simp only [fs, fo, fz, Act.put, s1, s2, s3] at hK ⊢
        refine ⟨?_⟩
        go_simp
        exact hK _ (filled2 hcs rfl)
      · intro vs hl w3 hb hd ha
        obtain ⟨v0, v1, v2, v3, v4, v5, v6, v7, rfl⟩ := len8 hl
        clear hl
        obtain ⟨kh0, kh1, kh2, kh3, kh4, kh5, kh6, kh7, _⟩ := hd
        obtain rfl : v0 = .agg #[.int .i64 a0, .int .i64 a1, .int .i64 a2, .int .i64 a3, .int .i64 a4, .int .i64 a5] := kh0
        obtain rfl : v1 = .agg #[.int .i64 a2, .int .i64 a3] := kh1
        obtain rfl : v2 = .agg #[.int .i64 b0, .int .i64 b1, .int .i64 b2, .int .i64 b3, .int .i64 b4, .int .i64 b5] := kh2
        obtain rfl : v3 = .agg #[.int .i64 b2, .int .i64 b3] := kh3
        obtain ⟨g3_4, rfl, ka4, kb4, kc4, kd4, ke4⟩ := kh4
        clear ke4 kd4 kc4
        obtain ⟨g3_5, rfl, ka5, kb5, kc5, kd5, ke5⟩ := kh5
        clear ke5 kd5 kc5
        obtain ⟨g_, hg_, _, _, cs_, hcs_, hq_⟩ := kh6
        cases hg_
        subst hq_
        have B4 := Blk.mk hcs_
        clear hcs_
        obtain ⟨g_, hg_, _, _, cs_, hcs_, hq_⟩ := kh7
        cases hg_
        subst hq_
        have B5 := Blk.mk hcs_
        clear hcs_
        have ne4_5 : g3_4 ≠ g3_5 := by rintro rfl; exact ha 4 5 (by decide) rfl rfl rfl
        clear ha
        simp only [fs, fo, fz, Act.put, s1, s2, s3]
        replace BA := BA.below hb
        replace BB := BB.below hb
        replace HB := Aside0.mk (HB.out.trans ((Below.trans (show Below w2.heap.size w2 w2.drew from pw_below_drewN (Below.refl _ _) 1) hb).mono HB.out.size))
        clear hb
        go_upto_region 4 with fail
        rcases hp0 : (decide (d < 0) : Bool) with _ | _
        case false =>
          replace BA := BA.drew
          replace BB := BB.drew
          replace B4 := B4.drew
          replace B5 := B5.drew
          refine region_sp (by kernel_rfl) [some 19, some 20, some 21, some 22, some 23, some 24, some 25, some 26, some 27, some 28, some 29, some 30, some 31, some 32, some 33, some 34, some 35, some 36, some 37, some 38, some 39, some 40, some 41, some 4] [undef, undef, undef, undef, undef, undef, undef, undef, undef, undef, undef, undef, undef, undef, undef, undef, undef, undef, undef, undef, undef, undef, undef, .bool false] [Sp.val (fun v => v = .agg #[.int .i64 a2, .int .i64 a3]), Sp.val (fun v => v = .agg #[.int .i64 b2, .int .i64 b3]), Sp.val (fun v => v = .int .i64 d), Sp.val (fun v => v = .bool false), Sp.val (fun v => v = .bool false), Sp.val (fun _ => True), Sp.val (fun _ => True), Sp.val (fun _ => True), Sp.val (fun _ => True), Sp.val (fun _ => True), Sp.val (fun _ => True), Sp.val (fun _ => True), Sp.val (fun v => v = .bool false), Sp.val (fun v => v = .bool false), Sp.val (fun _ => True), Sp.val (fun _ => True), Sp.val (fun _ => True), Sp.val (fun v => v = .bool false), Sp.val (fun v => v = .bool false), Sp.val (fun _ => True), Sp.val (fun _ => True), Sp.val (fun _ => True), Sp.val (fun v => v = .bool false), Sp.val (fun v => v = .bool false)] (by kernel_rfl) rfl (by kernel_rfl) ⟨?_, ?_, ?_, ?_, ?_, ?_, ?_, ?_, ?_, ?_, ?_, ?_, ?_, ?_, ?_, ?_, ?_, ?_, ?_, ?_, ?_, ?_, ?_, ?_, trivial⟩ ?_
          · intro vs hl u1 hb hd
            obtain ⟨v0, v1, v2, v3, v4, v5, v6, v7, v8, v9, v10, v11, v12, v13, v14, v15, v16, v17, v18, v19, v20, v21, v22, v23, rfl⟩ := len24 hl
            clear hl
            intro K hK
            obtain ⟨l0, l1⟩ := (B4.below hb).two
            simp only [fs, fo, fz, Act.put, s1, s2, s3] at hK ⊢
            refine ⟨?_⟩
            go_simp
            exact hK _ _ (Below.refl _ _) rfl
          · intro vs hl u1 hb hd
            obtain ⟨v0, v1, v2, v3, v4, v5, v6, v7, v8, v9, v10, v11, v12, v13, v14, v15, v16, v17, v18, v19, v20, v21, v22, v23, rfl⟩ := len24 hl
            clear hl
            intro K hK
            obtain ⟨l0, l1⟩ := (B5.below hb).two
            simp only [fs, fo, fz, Act.put, s1, s2, s3] at hK ⊢
            refine ⟨?_⟩
            go_simp
            exact hK _ _ (Below.refl _ _) rfl
          · intro vs hl u1 hb hd
            obtain ⟨v0, v1, v2, v3, v4, v5, v6, v7, v8, v9, v10, v11, v12, v13, v14, v15, v16, v17, v18, v19, v20, v21, v22, v23, rfl⟩ := len24 hl
            clear hl
            obtain ⟨kh0, kh1, _⟩ := hd
            obtain rfl : v0 = .agg #[.int .i64 a2, .int .i64 a3] := kh0
            obtain rfl : v1 = .agg #[.int .i64 b2, .int .i64 b3] := kh1
            intro K hK
            simp only [fs, fo, fz, Act.put, s1, s2, s3] at hK ⊢
            refine ⟨?_⟩
            go_simp
            refine (Hydt.out _).mono ?_
            rintro e w2 ⟨rfl, hb2⟩
            exact hK _ _ hb2 rfl
          · intro vs hl u1 hb hd
            obtain ⟨v0, v1, v2, v3, v4, v5, v6, v7, v8, v9, v10, v11, v12, v13, v14, v15, v16, v17, v18, v19, v20, v21, v22, v23, rfl⟩ := len24 hl
            clear hl
            obtain ⟨kh2, _⟩ := hd
            obtain rfl : v2 = .int .i64 d := kh2
            intro K hK
            simp only [fs, fo, fz, Act.put, s1, s2, s3] at hK ⊢
            refine ⟨?_⟩
            go_simp
            exact hK _ _ (Below.refl _ _) rfl
          · intro vs hl u1 hb hd
            obtain ⟨v0, v1, v2, v3, v4, v5, v6, v7, v8, v9, v10, v11, v12, v13, v14, v15, v16, v17, v18, v19, v20, v21, v22, v23, rfl⟩ := len24 hl
            clear hl
            obtain ⟨kh3, kh2, _⟩ := hd
            obtain rfl : v3 = .bool false := kh3
            obtain rfl : v2 = .int .i64 d := kh2
            intro K hK
            simp only [fs, fo, fz, Act.put, s1, s2, s3] at hK ⊢
            refine ⟨?_⟩
            go_simp
            exact hK _ _ (Below.refl _ _) rfl
          · intro vs hl u1 hb hd
            obtain ⟨v0, v1, v2, v3, v4, v5, v6, v7, v8, v9, v10, v11, v12, v13, v14, v15, v16, v17, v18, v19, v20, v21, v22, v23, rfl⟩ := len24 hl
            clear hl
            obtain ⟨kh4, _⟩ := hd
            obtain rfl : v4 = .bool false := kh4
            intro K hK
            simp only [fs, fo, fz, Act.put, s1, s2, s3] at hK ⊢
            refine ⟨?_⟩
            go_simp
            exact hK _ _ (Below.refl _ _) trivial
          · intro vs hl u1 hb hd
            obtain ⟨v0, v1, v2, v3, v4, v5, v6, v7, v8, v9, v10, v11, v12, v13, v14, v15, v16, v17, v18, v19, v20, v21, v22, v23, rfl⟩ := len24 hl
            clear hl
            obtain ⟨kh4, _⟩ := hd
            obtain rfl : v4 = .bool false := kh4
            intro K hK
            simp only [fs, fo, fz, Act.put, s1, s2, s3] at hK ⊢
            refine ⟨?_⟩
            go_simp
            exact hK _ _ (Below.refl _ _) trivial
          · intro vs hl u1 hb hd
            obtain ⟨v0, v1, v2, v3, v4, v5, v6, v7, v8, v9, v10, v11, v12, v13, v14, v15, v16, v17, v18, v19, v20, v21, v22, v23, rfl⟩ := len24 hl
            clear hl
            obtain ⟨_, _, kh4, _, _⟩ := hd
            obtain rfl : v4 = .bool false := kh4
            intro K hK
            simp only [fs, fo, fz, Act.put, s1, s2, s3] at hK ⊢
            refine ⟨?_⟩
            go_simp
            exact hK _ _ (Below.refl _ _) trivial
          · intro vs hl u1 hb hd
            obtain ⟨v0, v1, v2, v3, v4, v5, v6, v7, v8, v9, v10, v11, v12, v13, v14, v15, v16, v17, v18, v19, v20, v21, v22, v23, rfl⟩ := len24 hl
            clear hl
            obtain ⟨kh4, _⟩ := hd
            obtain rfl : v4 = .bool false := kh4
            intro K hK
            simp only [fs, fo, fz, Act.put, s1, s2, s3] at hK ⊢
            refine ⟨?_⟩
            go_simp
            exact hK _ _ (Below.refl _ _) trivial
          · intro vs hl u1 hb hd
            obtain ⟨v0, v1, v2, v3, v4, v5, v6, v7, v8, v9, v10, v11, v12, v13, v14, v15, v16, v17, v18, v19, v20, v21, v22, v23, rfl⟩ := len24 hl
            clear hl
            obtain ⟨kh4, _⟩ := hd
            obtain rfl : v4 = .bool false := kh4
            intro K hK
            simp only [fs, fo, fz, Act.put, s1, s2, s3] at hK ⊢
            refine ⟨?_⟩
            go_simp
            exact hK _ _ (Below.refl _ _) trivial
          · intro vs hl u1 hb hd
            obtain ⟨v0, v1, v2, v3, v4, v5, v6, v7, v8, v9, v10, v11, v12, v13, v14, v15, v16, v17, v18, v19, v20, v21, v22, v23, rfl⟩ := len24 hl
            clear hl
            obtain ⟨_, _, _, kh4, _⟩ := hd
            obtain rfl : v4 = .bool false := kh4
            intro K hK
            simp only [fs, fo, fz, Act.put, s1, s2, s3] at hK ⊢
            refine ⟨?_⟩
            go_simp
            exact hK _ _ (Below.refl _ _) trivial
          · intro vs hl u1 hb hd
            obtain ⟨v0, v1, v2, v3, v4, v5, v6, v7, v8, v9, v10, v11, v12, v13, v14, v15, v16, v17, v18, v19, v20, v21, v22, v23, rfl⟩ := len24 hl
            clear hl
            obtain ⟨_, _, _, kh4, _⟩ := hd
            obtain rfl : v4 = .bool false := kh4
            intro K hK
            simp only [fs, fo, fz, Act.put, s1, s2, s3] at hK ⊢
            refine ⟨?_⟩
            go_simp
            exact hK _ _ (Below.refl _ _) trivial
          · intro vs hl u1 hb hd
            obtain ⟨v0, v1, v2, v3, v4, v5, v6, v7, v8, v9, v10, v11, v12, v13, v14, v15, v16, v17, v18, v19, v20, v21, v22, v23, rfl⟩ := len24 hl
            clear hl
            obtain ⟨kh4, _, _⟩ := hd
            obtain rfl : v4 = .bool false := kh4
            intro K hK
            simp only [fs, fo, fz, Act.put, s1, s2, s3] at hK ⊢
            refine ⟨?_⟩
            go_simp
            exact hK _ _ (Below.refl _ _) rfl
          · intro vs hl u1 hb hd
            obtain ⟨v0, v1, v2, v3, v4, v5, v6, v7, v8, v9, v10, v11, v12, v13, v14, v15, v16, v17, v18, v19, v20, v21, v22, v23, rfl⟩ := len24 hl
            clear hl
            obtain ⟨kh12, _, _⟩ := hd
            obtain rfl : v12 = .bool false := kh12
            intro K hK
            simp only [fs, fo, fz, Act.put, s1, s2, s3] at hK ⊢
            refine ⟨?_⟩
            go_simp
            exact hK _ _ (Below.refl _ _) rfl
          · intro vs hl u1 hb hd
            obtain ⟨v0, v1, v2, v3, v4, v5, v6, v7, v8, v9, v10, v11, v12, v13, v14, v15, v16, v17, v18, v19, v20, v21, v22, v23, rfl⟩ := len24 hl
            clear hl
            obtain ⟨kh13, _⟩ := hd
            obtain rfl : v13 = .bool false := kh13
            intro K hK
            simp only [fs, fo, fz, Act.put, s1, s2, s3] at hK ⊢
            refine ⟨?_⟩
            go_simp
            exact hK _ _ (Below.refl _ _) trivial
          · intro vs hl u1 hb hd
            obtain ⟨v0, v1, v2, v3, v4, v5, v6, v7, v8, v9, v10, v11, v12, v13, v14, v15, v16, v17, v18, v19, v20, v21, v22, v23, rfl⟩ := len24 hl
            clear hl
            obtain ⟨kh13, _⟩ := hd
            obtain rfl : v13 = .bool false := kh13
            intro K hK
            simp only [fs, fo, fz, Act.put, s1, s2, s3] at hK ⊢
            refine ⟨?_⟩
            go_simp
            exact hK _ _ (Below.refl _ _) trivial
          · intro vs hl u1 hb hd
            obtain ⟨v0, v1, v2, v3, v4, v5, v6, v7, v8, v9, v10, v11, v12, v13, v14, v15, v16, v17, v18, v19, v20, v21, v22, v23, rfl⟩ := len24 hl
            clear hl
            obtain ⟨_, _, kh13, _, _⟩ := hd
            obtain rfl : v13 = .bool false := kh13
            intro K hK
            simp only [fs, fo, fz, Act.put, s1, s2, s3] at hK ⊢
            refine ⟨?_⟩
            go_simp
            exact hK _ _ (Below.refl _ _) trivial
          · intro vs hl u1 hb hd
            obtain ⟨v0, v1, v2, v3, v4, v5, v6, v7, v8, v9, v10, v11, v12, v13, v14, v15, v16, v17, v18, v19, v20, v21, v22, v23, rfl⟩ := len24 hl
            clear hl
            obtain ⟨kh13, _, _⟩ := hd
            obtain rfl : v13 = .bool false := kh13
            intro K hK
            simp only [fs, fo, fz, Act.put, s1, s2, s3] at hK ⊢
            refine ⟨?_⟩
            go_simp
            exact hK _ _ (Below.refl _ _) rfl
          · intro vs hl u1 hb hd
            obtain ⟨v0, v1, v2, v3, v4, v5, v6, v7, v8, v9, v10, v11, v12, v13, v14, v15, v16, v17, v18, v19, v20, v21, v22, v23, rfl⟩ := len24 hl
            clear hl
            obtain ⟨kh17, _, _⟩ := hd
            obtain rfl : v17 = .bool false := kh17
            intro K hK
            simp only [fs, fo, fz, Act.put, s1, s2, s3] at hK ⊢
            refine ⟨?_⟩
            go_simp
            exact hK _ _ (Below.refl _ _) rfl
          · intro vs hl u1 hb hd
            obtain ⟨v0, v1, v2, v3, v4, v5, v6, v7, v8, v9, v10, v11, v12, v13, v14, v15, v16, v17, v18, v19, v20, v21, v22, v23, rfl⟩ := len24 hl
            clear hl
            obtain ⟨kh18, _⟩ := hd
            obtain rfl : v18 = .bool false := kh18
            intro K hK
            simp only [fs, fo, fz, Act.put, s1, s2, s3] at hK ⊢
            refine ⟨?_⟩
            go_simp
            exact hK _ _ (Below.refl _ _) trivial
          · intro vs hl u1 hb hd
            obtain ⟨v0, v1, v2, v3, v4, v5, v6, v7, v8, v9, v10, v11, v12, v13, v14, v15, v16, v17, v18, v19, v20, v21, v22, v23, rfl⟩ := len24 hl
            clear hl
            obtain ⟨kh18, _⟩ := hd
            obtain rfl : v18 = .bool false := kh18
            intro K hK
            simp only [fs, fo, fz, Act.put, s1, s2, s3] at hK ⊢
            refine ⟨?_⟩
            go_simp
            exact hK _ _ (Below.refl _ _) trivial
          · intro vs hl u1 hb hd
            obtain ⟨v0, v1, v2, v3, v4, v5, v6, v7, v8, v9, v10, v11, v12, v13, v14, v15, v16, v17, v18, v19, v20, v21, v22, v23, rfl⟩ := len24 hl
            clear hl
            obtain ⟨_, _, kh18, _, _⟩ := hd
            obtain rfl : v18 = .bool false := kh18
            intro K hK
            simp only [fs, fo, fz, Act.put, s1, s2, s3] at hK ⊢
            refine ⟨?_⟩
            go_simp
            exact hK _ _ (Below.refl _ _) trivial
          · intro vs hl u1 hb hd
            obtain ⟨v0, v1, v2, v3, v4, v5, v6, v7, v8, v9, v10, v11, v12, v13, v14, v15, v16, v17, v18, v19, v20, v21, v22, v23, rfl⟩ := len24 hl
            clear hl
            obtain ⟨kh18, _, _⟩ := hd
            obtain rfl : v18 = .bool false := kh18
            intro K hK
            simp only [fs, fo, fz, Act.put, s1, s2, s3] at hK ⊢
            refine ⟨?_⟩
            go_simp
            exact hK _ _ (Below.refl _ _) rfl
          · intro vs hl u1 hb hd
            obtain ⟨v0, v1, v2, v3, v4, v5, v6, v7, v8, v9, v10, v11, v12, v13, v14, v15, v16, v17, v18, v19, v20, v21, v22, v23, rfl⟩ := len24 hl
            clear hl
            obtain ⟨kh22, _, kh0, kh1, kh2, kh3, kh4, _, _, _, _, _, _, _, kh12, kh13, _, _, _, kh17, kh18, _, _, _, _, _⟩ := hd
            obtain rfl : v22 = .bool false := kh22
            obtain rfl : v0 = .agg #[.int .i64 a2, .int .i64 a3] := kh0
            obtain rfl : v1 = .agg #[.int .i64 b2, .int .i64 b3] := kh1
            obtain rfl : v2 = .int .i64 d := kh2
            obtain rfl : v3 = .bool false := kh3
            obtain rfl : v4 = .bool false := kh4
            obtain rfl : v12 = .bool false := kh12
            obtain rfl : v13 = .bool false := kh13
            obtain rfl : v17 = .bool false := kh17
            obtain rfl : v18 = .bool false := kh18
            intro K hK
            simp only [fs, fo, fz, Act.put, s1, s2, s3] at hK ⊢
            refine ⟨?_⟩
            go_simp
            exact hK _ _ (Below.refl _ _) rfl
          · intro vs hl w4 hb hd ha
            obtain ⟨v0, v1, v2, v3, v4, v5, v6, v7, v8, v9, v10, v11, v12, v13, v14, v15, v16, v17, v18, v19, v20, v21, v22, v23, rfl⟩ := len24 hl
            clear hl
            obtain ⟨kh0, kh1, kh2, kh3, kh4, _, _, _, _, _, _, _, kh12, kh13, _, _, _, kh17, kh18, _, _, _, kh22, kh23, _⟩ := hd
            obtain rfl : v0 = .agg #[.int .i64 a2, .int .i64 a3] := kh0
            obtain rfl : v1 = .agg #[.int .i64 b2, .int .i64 b3] := kh1
            obtain rfl : v2 = .int .i64 d := kh2
            obtain rfl : v3 = .bool false := kh3
            obtain rfl : v4 = .bool false := kh4
            obtain rfl : v12 = .bool false := kh12
            obtain rfl : v13 = .bool false := kh13
            obtain rfl : v17 = .bool false := kh17
            obtain rfl : v18 = .bool false := kh18
            obtain rfl : v22 = .bool false := kh22
            obtain rfl : v23 = .bool false := kh23
            clear ha
            simp only [fs, fo, fz, Act.put, s1, s2, s3]
            replace BA := BA.below hb
            replace BB := BB.below hb
            replace B4 := B4.below hb
            replace B5 := B5.below hb
            replace HB := Aside0.mk (HB.out.trans ((Below.trans (show Below w3.heap.size w3 w3.drew from pw_below_drewN (Below.refl _ _) 1) hb).mono HB.out.size))
            clear hb
            go_wp2
            go_ret
            exact ⟨by first | rfl | (simp only [hp0]; rfl), HB.out⟩
        case true =>
          cases le
          case false =>
            replace BA := BA.drew
            replace BB := BB.drew
            replace B4 := B4.drew
            replace B5 := B5.drew
            refine region_sp (by kernel_rfl) [some 19, some 20, some 21, some 22, some 23, some 24, some 25, some 26, some 27, some 28, some 29, some 30, some 31, some 32, some 33, some 34, some 35, some 36, some 37, some 38, some 39, some 40, some 41, some 4] [undef, undef, undef, undef, undef, undef, undef, undef, undef, undef, undef, undef, undef, undef, undef, undef, undef, undef, undef, undef, undef, undef, undef, .bool false] [Sp.val (fun v => v = .agg #[.int .i64 a2, .int .i64 a3]), Sp.val (fun v => v = .agg #[.int .i64 b2, .int .i64 b3]), Sp.val (fun v => v = .int .i64 d), Sp.val (fun v => v = .bool true), Sp.val (fun v => v = .bool true), Sp.val (fun v => v = .agg #[.int .i64 a2, .int .i64 a3]), Sp.val (fun v => v = .agg #[.int .i64 b2, .int .i64 b3]), Sp.val (fun v => v = .int .i64 c), Sp.val (fun v => v = .agg #[.int .i64 a2, .int .i64 a3]), Sp.val (fun v => v = .agg #[.int .i64 b2, .int .i64 b3]), Sp.val (fun v => v = .int .i64 d), Sp.val (fun v => v = .bool false), Sp.val (fun v => v = .bool false), Sp.val (fun v => v = .bool false), Sp.val (fun _ => True), Sp.val (fun _ => True), Sp.val (fun _ => True), Sp.val (fun v => v = .bool false), Sp.val (fun v => v = .bool false), Sp.val (fun _ => True), Sp.val (fun _ => True), Sp.val (fun _ => True), Sp.val (fun v => v = .bool false), Sp.val (fun v => v = .bool false)] (by kernel_rfl) rfl (by kernel_rfl) ⟨?_, ?_, ?_, ?_, ?_, ?_, ?_, ?_, ?_, ?_, ?_, ?_, ?_, ?_, ?_, ?_, ?_, ?_, ?_, ?_, ?_, ?_, ?_, ?_, trivial⟩ ?_
            · intro vs hl u1 hb hd
              obtain ⟨v0, v1, v2, v3, v4, v5, v6, v7, v8, v9, v10, v11, v12, v13, v14, v15, v16, v17, v18, v19, v20, v21, v22, v23, rfl⟩ := len24 hl
              clear hl
              intro K hK
              obtain ⟨l0, l1⟩ := (B4.below hb).two
              simp only [fs, fo, fz, Act.put, s1, s2, s3] at hK ⊢
              refine ⟨?_⟩
              go_simp
              exact hK _ _ (Below.refl _ _) rfl
            · intro vs hl u1 hb hd
              obtain ⟨v0, v1, v2, v3, v4, v5, v6, v7, v8, v9, v10, v11, v12, v13, v14, v15, v16, v17, v18, v19, v20, v21, v22, v23, rfl⟩ := len24 hl
              clear hl
              intro K hK
              obtain ⟨l0, l1⟩ := (B5.below hb).two
              simp only [fs, fo, fz, Act.put, s1, s2, s3] at hK ⊢
              refine ⟨?_⟩
              go_simp
              exact hK _ _ (Below.refl _ _) rfl
            · intro vs hl u1 hb hd
              obtain ⟨v0, v1, v2, v3, v4, v5, v6, v7, v8, v9, v10, v11, v12, v13, v14, v15, v16, v17, v18, v19, v20, v21, v22, v23, rfl⟩ := len24 hl
              clear hl
              obtain ⟨kh0, kh1, _⟩ := hd
              obtain rfl : v0 = .agg #[.int .i64 a2, .int .i64 a3] := kh0
              obtain rfl : v1 = .agg #[.int .i64 b2, .int .i64 b3] := kh1
              intro K hK
              simp only [fs, fo, fz, Act.put, s1, s2, s3] at hK ⊢
              refine ⟨?_⟩
              go_simp
              refine (Hydt.out _).mono ?_
              rintro e w2 ⟨rfl, hb2⟩
              exact hK _ _ hb2 rfl
            · intro vs hl u1 hb hd
              obtain ⟨v0, v1, v2, v3, v4, v5, v6, v7, v8, v9, v10, v11, v12, v13, v14, v15, v16, v17, v18, v19, v20, v21, v22, v23, rfl⟩ := len24 hl
              clear hl
              obtain ⟨kh2, _⟩ := hd
              obtain rfl : v2 = .int .i64 d := kh2
              intro K hK
              simp only [fs, fo, fz, Act.put, s1, s2, s3] at hK ⊢
              refine ⟨?_⟩
              go_simp
              exact hK _ _ (Below.refl _ _) rfl
            · intro vs hl u1 hb hd
              obtain ⟨v0, v1, v2, v3, v4, v5, v6, v7, v8, v9, v10, v11, v12, v13, v14, v15, v16, v17, v18, v19, v20, v21, v22, v23, rfl⟩ := len24 hl
              clear hl
              obtain ⟨kh3, kh2, _⟩ := hd
              obtain rfl : v3 = .bool true := kh3
              obtain rfl : v2 = .int .i64 d := kh2
              intro K hK
              simp only [fs, fo, fz, Act.put, s1, s2, s3] at hK ⊢
              refine ⟨?_⟩
              go_simp
              exact hK _ _ (Below.refl _ _) rfl
            · intro vs hl u1 hb hd
              obtain ⟨v0, v1, v2, v3, v4, v5, v6, v7, v8, v9, v10, v11, v12, v13, v14, v15, v16, v17, v18, v19, v20, v21, v22, v23, rfl⟩ := len24 hl
              clear hl
              obtain ⟨kh4, _⟩ := hd
              obtain rfl : v4 = .bool true := kh4
              intro K hK
              obtain ⟨l0, l1⟩ := (B4.below hb).two
              simp only [fs, fo, fz, Act.put, s1, s2, s3] at hK ⊢
              refine ⟨?_⟩
              go_simp
              exact hK _ _ (Below.refl _ _) rfl
            · intro vs hl u1 hb hd
              obtain ⟨v0, v1, v2, v3, v4, v5, v6, v7, v8, v9, v10, v11, v12, v13, v14, v15, v16, v17, v18, v19, v20, v21, v22, v23, rfl⟩ := len24 hl
              clear hl
              obtain ⟨kh4, _⟩ := hd
              obtain rfl : v4 = .bool true := kh4
              intro K hK
              obtain ⟨l0, l1⟩ := (B5.below hb).two
              simp only [fs, fo, fz, Act.put, s1, s2, s3] at hK ⊢
              refine ⟨?_⟩
              go_simp
              exact hK _ _ (Below.refl _ _) rfl
            · intro vs hl u1 hb hd
              obtain ⟨v0, v1, v2, v3, v4, v5, v6, v7, v8, v9, v10, v11, v12, v13, v14, v15, v16, v17, v18, v19, v20, v21, v22, v23, rfl⟩ := len24 hl
              clear hl
              obtain ⟨kh5, kh6, kh4, _, _⟩ := hd
              obtain rfl : v5 = .agg #[.int .i64 a2, .int .i64 a3] := kh5
              obtain rfl : v6 = .agg #[.int .i64 b2, .int .i64 b3] := kh6
              obtain rfl : v4 = .bool true := kh4
              intro K hK
              simp only [fs, fo, fz, Act.put, s1, s2, s3] at hK ⊢
              refine ⟨?_⟩
              go_simp
              refine (Hycr.out _).mono ?_
              rintro e w2 ⟨rfl, hb2⟩
              exact hK _ _ hb2 rfl
            · intro vs hl u1 hb hd
              obtain ⟨v0, v1, v2, v3, v4, v5, v6, v7, v8, v9, v10, v11, v12, v13, v14, v15, v16, v17, v18, v19, v20, v21, v22, v23, rfl⟩ := len24 hl
              clear hl
              obtain ⟨kh4, _⟩ := hd
              obtain rfl : v4 = .bool true := kh4
              intro K hK
              obtain ⟨l0, l1⟩ := (B4.below hb).two
              simp only [fs, fo, fz, Act.put, s1, s2, s3] at hK ⊢
              refine ⟨?_⟩
              go_simp
              exact hK _ _ (Below.refl _ _) rfl
            · intro vs hl u1 hb hd
              obtain ⟨v0, v1, v2, v3, v4, v5, v6, v7, v8, v9, v10, v11, v12, v13, v14, v15, v16, v17, v18, v19, v20, v21, v22, v23, rfl⟩ := len24 hl
              clear hl
              obtain ⟨kh4, _⟩ := hd
              obtain rfl : v4 = .bool true := kh4
              intro K hK
              obtain ⟨l0, l1⟩ := (B5.below hb).two
              simp only [fs, fo, fz, Act.put, s1, s2, s3] at hK ⊢
              refine ⟨?_⟩
              go_simp
              exact hK _ _ (Below.refl _ _) rfl
            · intro vs hl u1 hb hd
              obtain ⟨v0, v1, v2, v3, v4, v5, v6, v7, v8, v9, v10, v11, v12, v13, v14, v15, v16, v17, v18, v19, v20, v21, v22, v23, rfl⟩ := len24 hl
              clear hl
              obtain ⟨kh8, kh9, kh7, kh4, _⟩ := hd
              obtain rfl : v8 = .agg #[.int .i64 a2, .int .i64 a3] := kh8
              obtain rfl : v9 = .agg #[.int .i64 b2, .int .i64 b3] := kh9
              obtain rfl : v7 = .int .i64 c := kh7
              obtain rfl : v4 = .bool true := kh4
              intro K hK
              simp only [fs, fo, fz, Act.put, s1, s2, s3] at hK ⊢
              refine ⟨?_⟩
              go_simp
              refine (Hydt.out _).mono ?_
              rintro e w2 ⟨rfl, hb2⟩
              exact hK _ _ hb2 rfl
            · intro vs hl u1 hb hd
              obtain ⟨v0, v1, v2, v3, v4, v5, v6, v7, v8, v9, v10, v11, v12, v13, v14, v15, v16, v17, v18, v19, v20, v21, v22, v23, rfl⟩ := len24 hl
              clear hl
              obtain ⟨kh7, kh10, _, kh4, _⟩ := hd
              obtain rfl : v7 = .int .i64 c := kh7
              obtain rfl : v10 = .int .i64 d := kh10
              obtain rfl : v4 = .bool true := kh4
              intro K hK
              simp only [fs, fo, fz, Act.put, s1, s2, s3] at hK ⊢
              refine ⟨?_⟩
              go_simp
              refine (Hyle.out _).mono ?_
              rintro e w2 ⟨rfl, hb2⟩
              exact hK _ _ hb2 rfl
            · intro vs hl u1 hb hd
              obtain ⟨v0, v1, v2, v3, v4, v5, v6, v7, v8, v9, v10, v11, v12, v13, v14, v15, v16, v17, v18, v19, v20, v21, v22, v23, rfl⟩ := len24 hl
              clear hl
              obtain ⟨kh4, kh11, _⟩ := hd
              obtain rfl : v4 = .bool true := kh4
              obtain rfl : v11 = .bool false := kh11
              intro K hK
              simp only [fs, fo, fz, Act.put, s1, s2, s3] at hK ⊢
              refine ⟨?_⟩
              go_simp
              exact hK _ _ (Below.refl _ _) rfl
            · intro vs hl u1 hb hd
              obtain ⟨v0, v1, v2, v3, v4, v5, v6, v7, v8, v9, v10, v11, v12, v13, v14, v15, v16, v17, v18, v19, v20, v21, v22, v23, rfl⟩ := len24 hl
              clear hl
              obtain ⟨kh12, kh11, _⟩ := hd
              obtain rfl : v12 = .bool false := kh12
              obtain rfl : v11 = .bool false := kh11
              intro K hK
              simp only [fs, fo, fz, Act.put, s1, s2, s3] at hK ⊢
              refine ⟨?_⟩
              go_simp
              exact hK _ _ (Below.refl _ _) rfl
            · intro vs hl u1 hb hd
              obtain ⟨v0, v1, v2, v3, v4, v5, v6, v7, v8, v9, v10, v11, v12, v13, v14, v15, v16, v17, v18, v19, v20, v21, v22, v23, rfl⟩ := len24 hl
              clear hl
              obtain ⟨kh13, _⟩ := hd
              obtain rfl : v13 = .bool false := kh13
              intro K hK
              simp only [fs, fo, fz, Act.put, s1, s2, s3] at hK ⊢
              refine ⟨?_⟩
              go_simp
              exact hK _ _ (Below.refl _ _) trivial
            · intro vs hl u1 hb hd
              obtain ⟨v0, v1, v2, v3, v4, v5, v6, v7, v8, v9, v10, v11, v12, v13, v14, v15, v16, v17, v18, v19, v20, v21, v22, v23, rfl⟩ := len24 hl
              clear hl
              obtain ⟨kh13, _⟩ := hd
              obtain rfl : v13 = .bool false := kh13
              intro K hK
              simp only [fs, fo, fz, Act.put, s1, s2, s3] at hK ⊢
              refine ⟨?_⟩
              go_simp
              exact hK _ _ (Below.refl _ _) trivial
            · intro vs hl u1 hb hd
              obtain ⟨v0, v1, v2, v3, v4, v5, v6, v7, v8, v9, v10, v11, v12, v13, v14, v15, v16, v17, v18, v19, v20, v21, v22, v23, rfl⟩ := len24 hl
              clear hl
              obtain ⟨_, _, kh13, _, _⟩ := hd
              obtain rfl : v13 = .bool false := kh13
              intro K hK
              simp only [fs, fo, fz, Act.put, s1, s2, s3] at hK ⊢
              refine ⟨?_⟩
              go_simp
              exact hK _ _ (Below.refl _ _) trivial
            · intro vs hl u1 hb hd
              obtain ⟨v0, v1, v2, v3, v4, v5, v6, v7, v8, v9, v10, v11, v12, v13, v14, v15, v16, v17, v18, v19, v20, v21, v22, v23, rfl⟩ := len24 hl
              clear hl
              obtain ⟨kh13, _, _⟩ := hd
              obtain rfl : v13 = .bool false := kh13
              intro K hK
              simp only [fs, fo, fz, Act.put, s1, s2, s3] at hK ⊢
              refine ⟨?_⟩
              go_simp
              exact hK _ _ (Below.refl _ _) rfl
            · intro vs hl u1 hb hd
              obtain ⟨v0, v1, v2, v3, v4, v5, v6, v7, v8, v9, v10, v11, v12, v13, v14, v15, v16, v17, v18, v19, v20, v21, v22, v23, rfl⟩ := len24 hl
              clear hl
              obtain ⟨kh17, _, _⟩ := hd
              obtain rfl : v17 = .bool false := kh17
              intro K hK
              simp only [fs, fo, fz, Act.put, s1, s2, s3] at hK ⊢
              refine ⟨?_⟩
              go_simp
              exact hK _ _ (Below.refl _ _) rfl
            · intro vs hl u1 hb hd
              obtain ⟨v0, v1, v2, v3, v4, v5, v6, v7, v8, v9, v10, v11, v12, v13, v14, v15, v16, v17, v18, v19, v20, v21, v22, v23, rfl⟩ := len24 hl
              clear hl
              obtain ⟨kh18, _⟩ := hd
              obtain rfl : v18 = .bool false := kh18
              intro K hK
              simp only [fs, fo, fz, Act.put, s1, s2, s3] at hK ⊢
              refine ⟨?_⟩
              go_simp
              exact hK _ _ (Below.refl _ _) trivial
            · intro vs hl u1 hb hd
              obtain ⟨v0, v1, v2, v3, v4, v5, v6, v7, v8, v9, v10, v11, v12, v13, v14, v15, v16, v17, v18, v19, v20, v21, v22, v23, rfl⟩ := len24 hl
              clear hl
              obtain ⟨kh18, _⟩ := hd
              obtain rfl : v18 = .bool false := kh18
              intro K hK
              simp only [fs, fo, fz, Act.put, s1, s2, s3] at hK ⊢
              refine ⟨?_⟩
              go_simp
              exact hK _ _ (Below.refl _ _) trivial
            · intro vs hl u1 hb hd
              obtain ⟨v0, v1, v2, v3, v4, v5, v6, v7, v8, v9, v10, v11, v12, v13, v14, v15, v16, v17, v18, v19, v20, v21, v22, v23, rfl⟩ := len24 hl
              clear hl
              obtain ⟨_, _, kh18, _, _⟩ := hd
              obtain rfl : v18 = .bool false := kh18
              intro K hK
              simp only [fs, fo, fz, Act.put, s1, s2, s3] at hK ⊢
              refine ⟨?_⟩
              go_simp
              exact hK _ _ (Below.refl _ _) trivial
            · intro vs hl u1 hb hd
              obtain ⟨v0, v1, v2, v3, v4, v5, v6, v7, v8, v9, v10, v11, v12, v13, v14, v15, v16, v17, v18, v19, v20, v21, v22, v23, rfl⟩ := len24 hl
              clear hl
              obtain ⟨kh18, _, _⟩ := hd
              obtain rfl : v18 = .bool false := kh18
              intro K hK
              simp only [fs, fo, fz, Act.put, s1, s2, s3] at hK ⊢
              refine ⟨?_⟩
              go_simp
              exact hK _ _ (Below.refl _ _) rfl
            · intro vs hl u1 hb hd
              obtain ⟨v0, v1, v2, v3, v4, v5, v6, v7, v8, v9, v10, v11, v12, v13, v14, v15, v16, v17, v18, v19, v20, v21, v22, v23, rfl⟩ := len24 hl
              clear hl
              obtain ⟨kh22, _, kh0, kh1, kh2, kh3, kh4, kh5, kh6, kh7, kh8, kh9, kh10, kh11, kh12, kh13, _, _, _, kh17, kh18, _, _, _, _, _⟩ := hd
              obtain rfl : v22 = .bool false := kh22
              obtain rfl : v0 = .agg #[.int .i64 a2, .int .i64 a3] := kh0
              obtain rfl : v1 = .agg #[.int .i64 b2, .int .i64 b3] := kh1
              obtain rfl : v2 = .int .i64 d := kh2
              obtain rfl : v3 = .bool true := kh3
              obtain rfl : v4 = .bool true := kh4
              obtain rfl : v5 = .agg #[.int .i64 a2, .int .i64 a3] := kh5
              obtain rfl : v6 = .agg #[.int .i64 b2, .int .i64 b3] := kh6
              obtain rfl : v7 = .int .i64 c := kh7
              obtain rfl : v8 = .agg #[.int .i64 a2, .int .i64 a3] := kh8
              obtain rfl : v9 = .agg #[.int .i64 b2, .int .i64 b3] := kh9
              obtain rfl : v10 = .int .i64 d := kh10
              obtain rfl : v11 = .bool false := kh11
              obtain rfl : v12 = .bool false := kh12
              obtain rfl : v13 = .bool false := kh13
              obtain rfl : v17 = .bool false := kh17
              obtain rfl : v18 = .bool false := kh18
              intro K hK
              simp only [fs, fo, fz, Act.put, s1, s2, s3] at hK ⊢
              refine ⟨?_⟩
              go_simp
              exact hK _ _ (Below.refl _ _) rfl
            · intro vs hl w4 hb hd ha
              obtain ⟨v0, v1, v2, v3, v4, v5, v6, v7, v8, v9, v10, v11, v12, v13, v14, v15, v16, v17, v18, v19, v20, v21, v22, v23, rfl⟩ := len24 hl
              clear hl
              obtain ⟨kh0, kh1, kh2, kh3, kh4, kh5, kh6, kh7, kh8, kh9, kh10, kh11, kh12, kh13, _, _, _, kh17, kh18, _, _, _, kh22, kh23, _⟩ := hd
              obtain rfl : v0 = .agg #[.int .i64 a2, .int .i64 a3] := kh0
              obtain rfl : v1 = .agg #[.int .i64 b2, .int .i64 b3] := kh1
              obtain rfl : v2 = .int .i64 d := kh2
              obtain rfl : v3 = .bool true := kh3
              obtain rfl : v4 = .bool true := kh4
              obtain rfl : v5 = .agg #[.int .i64 a2, .int .i64 a3] := kh5
              obtain rfl : v6 = .agg #[.int .i64 b2, .int .i64 b3] := kh6
              obtain rfl : v7 = .int .i64 c := kh7
              obtain rfl : v8 = .agg #[.int .i64 a2, .int .i64 a3] := kh8
              obtain rfl : v9 = .agg #[.int .i64 b2, .int .i64 b3] := kh9
              obtain rfl : v10 = .int .i64 d := kh10
              obtain rfl : v11 = .bool false := kh11
              obtain rfl : v12 = .bool false := kh12
              obtain rfl : v13 = .bool false := kh13
              obtain rfl : v17 = .bool false := kh17
              obtain rfl : v18 = .bool false := kh18
              obtain rfl : v22 = .bool false := kh22
              obtain rfl : v23 = .bool false := kh23
              clear ha
              simp only [fs, fo, fz, Act.put, s1, s2, s3]
              replace BA := BA.below hb
              replace BB := BB.below hb
              replace B4 := B4.below hb
              replace B5 := B5.below hb
              replace HB := Aside0.mk (HB.out.trans ((Below.trans (show Below w3.heap.size w3 w3.drew from pw_below_drewN (Below.refl _ _) 1) hb).mono HB.out.size))
              clear hb
              go_wp2
              go_ret
              exact ⟨by first | rfl | (simp only [hp0]; rfl), HB.out⟩
          case true =>
            cases h1
            case false =>
              replace BA := BA.drew
              replace BB := BB.drew
              replace B4 := B4.drew
              replace B5 := B5.drew
              refine region_sp (by kernel_rfl) [some 19, some 20, some 21, some 22, some 23, some 24, some 25, some 26, some 27, some 28, some 29, some 30, some 31, some 32, some 33, some 34, some 35, some 36, some 37, some 38, some 39, some 40, some 41, some 4] [undef, undef, undef, undef, undef, undef, undef, undef, undef, undef, undef, undef, undef, undef, undef, undef, undef, undef, undef, undef, undef, undef, undef, .bool false] [Sp.val (fun v => v = .agg #[.int .i64 a2, .int .i64 a3]), Sp.val (fun v => v = .agg #[.int .i64 b2, .int .i64 b3]), Sp.val (fun v => v = .int .i64 d), Sp.val (fun v => v = .bool true), Sp.val (fun v => v = .bool true), Sp.val (fun v => v = .agg #[.int .i64 a2, .int .i64 a3]), Sp.val (fun v => v = .agg #[.int .i64 b2, .int .i64 b3]), Sp.val (fun v => v = .int .i64 c), Sp.val (fun v => v = .agg #[.int .i64 a2, .int .i64 a3]), Sp.val (fun v => v = .agg #[.int .i64 b2, .int .i64 b3]), Sp.val (fun v => v = .int .i64 d), Sp.val (fun v => v = .bool true), Sp.val (fun v => v = .bool true), Sp.val (fun v => v = .bool true), Sp.val (fun v => v = .agg #[.int .i64 a0, .int .i64 a1, .int .i64 a2, .int .i64 a3, .int .i64 a4, .int .i64 a5]), Sp.val (fun v => v = .agg #[.int .i64 b0, .int .i64 b1, .int .i64 b2, .int .i64 b3, .int .i64 b4, .int .i64 b5]), Sp.val (fun v => v = .bool false), Sp.val (fun v => v = .bool false), Sp.val (fun v => v = .bool false), Sp.val (fun _ => True), Sp.val (fun _ => True), Sp.val (fun _ => True), Sp.val (fun v => v = .bool false), Sp.val (fun v => v = .bool false)] (by kernel_rfl) rfl (by kernel_rfl) ⟨?_, ?_, ?_, ?_, ?_, ?_, ?_, ?_, ?_, ?_, ?_, ?_, ?_, ?_, ?_, ?_, ?_, ?_, ?_, ?_, ?_, ?_, ?_, ?_, trivial⟩ ?_
              · intro vs hl u1 hb hd
                obtain ⟨v0, v1, v2, v3, v4, v5, v6, v7, v8, v9, v10, v11, v12, v13, v14, v15, v16, v17, v18, v19, v20, v21, v22, v23, rfl⟩ := len24 hl
                clear hl
                intro K hK
                obtain ⟨l0, l1⟩ := (B4.below hb).two
                simp only [fs, fo, fz, Act.put, s1, s2, s3] at hK ⊢
                refine ⟨?_⟩
                go_simp
                exact hK _ _ (Below.refl _ _) rfl
              · intro vs hl u1 hb hd
                obtain ⟨v0, v1, v2, v3, v4, v5, v6, v7, v8, v9, v10, v11, v12, v13, v14, v15, v16, v17, v18, v19, v20, v21, v22, v23, rfl⟩ := len24 hl
                clear hl
                intro K hK
                obtain ⟨l0, l1⟩ := (B5.below hb).two
                simp only [fs, fo, fz, Act.put, s1, s2, s3] at hK ⊢
                refine ⟨?_⟩
                go_simp
                exact hK _ _ (Below.refl _ _) rfl
              · intro vs hl u1 hb hd
                obtain ⟨v0, v1, v2, v3, v4, v5, v6, v7, v8, v9, v10, v11, v12, v13, v14, v15, v16, v17, v18, v19, v20, v21, v22, v23, rfl⟩ := len24 hl
                clear hl
                obtain ⟨kh0, kh1, _⟩ := hd
                obtain rfl : v0 = .agg #[.int .i64 a2, .int .i64 a3] := kh0
                obtain rfl : v1 = .agg #[.int .i64 b2, .int .i64 b3] := kh1
                intro K hK
                simp only [fs, fo, fz, Act.put, s1, s2, s3] at hK ⊢
                refine ⟨?_⟩
                go_simp
                refine (Hydt.out _).mono ?_
                rintro e w2 ⟨rfl, hb2⟩
                exact hK _ _ hb2 rfl
              · intro vs hl u1 hb hd
                obtain ⟨v0, v1, v2, v3, v4, v5, v6, v7, v8, v9, v10, v11, v12, v13, v14, v15, v16, v17, v18, v19, v20, v21, v22, v23, rfl⟩ := len24 hl
                clear hl
                obtain ⟨kh2, _⟩ := hd
                obtain rfl : v2 = .int .i64 d := kh2
                intro K hK
                simp only [fs, fo, fz, Act.put, s1, s2, s3] at hK ⊢
                refine ⟨?_⟩
                go_simp
                exact hK _ _ (Below.refl _ _) rfl
              · intro vs hl u1 hb hd
                obtain ⟨v0, v1, v2, v3, v4, v5, v6, v7, v8, v9, v10, v11, v12, v13, v14, v15, v16, v17, v18, v19, v20, v21, v22, v23, rfl⟩ := len24 hl
                clear hl
                obtain ⟨kh3, kh2, _⟩ := hd
                obtain rfl : v3 = .bool true := kh3
                obtain rfl : v2 = .int .i64 d := kh2
                intro K hK
                simp only [fs, fo, fz, Act.put, s1, s2, s3] at hK ⊢
                refine ⟨?_⟩
                go_simp
                exact hK _ _ (Below.refl _ _) rfl
              · intro vs hl u1 hb hd
                obtain ⟨v0, v1, v2, v3, v4, v5, v6, v7, v8, v9, v10, v11, v12, v13, v14, v15, v16, v17, v18, v19, v20, v21, v22, v23, rfl⟩ := len24 hl
                clear hl
                obtain ⟨kh4, _⟩ := hd
                obtain rfl : v4 = .bool true := kh4
                intro K hK
                obtain ⟨l0, l1⟩ := (B4.below hb).two
                simp only [fs, fo, fz, Act.put, s1, s2, s3] at hK ⊢
                refine ⟨?_⟩
                go_simp
                exact hK _ _ (Below.refl _ _) rfl
              · intro vs hl u1 hb hd
                obtain ⟨v0, v1, v2, v3, v4, v5, v6, v7, v8, v9, v10, v11, v12, v13, v14, v15, v16, v17, v18, v19, v20, v21, v22, v23, rfl⟩ := len24 hl
                clear hl
                obtain ⟨kh4, _⟩ := hd
                obtain rfl : v4 = .bool true := kh4
                intro K hK
                obtain ⟨l0, l1⟩ := (B5.below hb).two
                simp only [fs, fo, fz, Act.put, s1, s2, s3] at hK ⊢
                refine ⟨?_⟩
                go_simp
                exact hK _ _ (Below.refl _ _) rfl
              · intro vs hl u1 hb hd
                obtain ⟨v0, v1, v2, v3, v4, v5, v6, v7, v8, v9, v10, v11, v12, v13, v14, v15, v16, v17, v18, v19, v20, v21, v22, v23, rfl⟩ := len24 hl
                clear hl
                obtain ⟨kh5, kh6, kh4, _, _⟩ := hd
                obtain rfl : v5 = .agg #[.int .i64 a2, .int .i64 a3] := kh5
                obtain rfl : v6 = .agg #[.int .i64 b2, .int .i64 b3] := kh6
                obtain rfl : v4 = .bool true := kh4
                intro K hK
                simp only [fs, fo, fz, Act.put, s1, s2, s3] at hK ⊢
                refine ⟨?_⟩
                go_simp
                refine (Hycr.out _).mono ?_
                rintro e w2 ⟨rfl, hb2⟩
                exact hK _ _ hb2 rfl
              · intro vs hl u1 hb hd
                obtain ⟨v0, v1, v2, v3, v4, v5, v6, v7, v8, v9, v10, v11, v12, v13, v14, v15, v16, v17, v18, v19, v20, v21, v22, v23, rfl⟩ := len24 hl
                clear hl
                obtain ⟨kh4, _⟩ := hd
                obtain rfl : v4 = .bool true := kh4
                intro K hK
                obtain ⟨l0, l1⟩ := (B4.below hb).two
                simp only [fs, fo, fz, Act.put, s1, s2, s3] at hK ⊢
                refine ⟨?_⟩
                go_simp
                exact hK _ _ (Below.refl _ _) rfl
              · intro vs hl u1 hb hd
                obtain ⟨v0, v1, v2, v3, v4, v5, v6, v7, v8, v9, v10, v11, v12, v13, v14, v15, v16, v17, v18, v19, v20, v21, v22, v23, rfl⟩ := len24 hl
                clear hl
                obtain ⟨kh4, _⟩ := hd
                obtain rfl : v4 = .bool true := kh4
                intro K hK
                obtain ⟨l0, l1⟩ := (B5.below hb).two
                simp only [fs, fo, fz, Act.put, s1, s2, s3] at hK ⊢
                refine ⟨?_⟩
                go_simp
                exact hK _ _ (Below.refl _ _) rfl
              · intro vs hl u1 hb hd
                obtain ⟨v0, v1, v2, v3, v4, v5, v6, v7, v8, v9, v10, v11, v12, v13, v14, v15, v16, v17, v18, v19, v20, v21, v22, v23, rfl⟩ := len24 hl
                clear hl
                obtain ⟨kh8, kh9, kh7, kh4, _⟩ := hd
                obtain rfl : v8 = .agg #[.int .i64 a2, .int .i64 a3] := kh8
                obtain rfl : v9 = .agg #[.int .i64 b2, .int .i64 b3] := kh9
                obtain rfl : v7 = .int .i64 c := kh7
                obtain rfl : v4 = .bool true := kh4
                intro K hK
                simp only [fs, fo, fz, Act.put, s1, s2, s3] at hK ⊢
                refine ⟨?_⟩
                go_simp
                refine (Hydt.out _).mono ?_
                rintro e w2 ⟨rfl, hb2⟩
                exact hK _ _ hb2 rfl
              · intro vs hl u1 hb hd
                obtain ⟨v0, v1, v2, v3, v4, v5, v6, v7, v8, v9, v10, v11, v12, v13, v14, v15, v16, v17, v18, v19, v20, v21, v22, v23, rfl⟩ := len24 hl
                clear hl
                obtain ⟨kh7, kh10, _, kh4, _⟩ := hd
                obtain rfl : v7 = .int .i64 c := kh7
                obtain rfl : v10 = .int .i64 d := kh10
                obtain rfl : v4 = .bool true := kh4
                intro K hK
                simp only [fs, fo, fz, Act.put, s1, s2, s3] at hK ⊢
                refine ⟨?_⟩
                go_simp
                refine (Hyle.out _).mono ?_
                rintro e w2 ⟨rfl, hb2⟩
                exact hK _ _ hb2 rfl
              · intro vs hl u1 hb hd
                obtain ⟨v0, v1, v2, v3, v4, v5, v6, v7, v8, v9, v10, v11, v12, v13, v14, v15, v16, v17, v18, v19, v20, v21, v22, v23, rfl⟩ := len24 hl
                clear hl
                obtain ⟨kh4, kh11, _⟩ := hd
                obtain rfl : v4 = .bool true := kh4
                obtain rfl : v11 = .bool true := kh11
                intro K hK
                simp only [fs, fo, fz, Act.put, s1, s2, s3] at hK ⊢
                refine ⟨?_⟩
                go_simp
                exact hK _ _ (Below.refl _ _) rfl
              · intro vs hl u1 hb hd
                obtain ⟨v0, v1, v2, v3, v4, v5, v6, v7, v8, v9, v10, v11, v12, v13, v14, v15, v16, v17, v18, v19, v20, v21, v22, v23, rfl⟩ := len24 hl
                clear hl
                obtain ⟨kh12, kh11, _⟩ := hd
                obtain rfl : v12 = .bool true := kh12
                obtain rfl : v11 = .bool true := kh11
                intro K hK
                simp only [fs, fo, fz, Act.put, s1, s2, s3] at hK ⊢
                refine ⟨?_⟩
                go_simp
                exact hK _ _ (Below.refl _ _) rfl
              · intro vs hl u1 hb hd
                obtain ⟨v0, v1, v2, v3, v4, v5, v6, v7, v8, v9, v10, v11, v12, v13, v14, v15, v16, v17, v18, v19, v20, v21, v22, v23, rfl⟩ := len24 hl
                clear hl
                obtain ⟨kh13, _⟩ := hd
                obtain rfl : v13 = .bool true := kh13
                intro K hK
                obtain ⟨l0, l1, l2, l3, l4, l5⟩ := (BA.below hb).six
                simp only [fs, fo, fz, Act.put, s1, s2, s3] at hK ⊢
                refine ⟨?_⟩
                go_simp
                exact hK _ _ (Below.refl _ _) rfl
              · intro vs hl u1 hb hd
                obtain ⟨v0, v1, v2, v3, v4, v5, v6, v7, v8, v9, v10, v11, v12, v13, v14, v15, v16, v17, v18, v19, v20, v21, v22, v23, rfl⟩ := len24 hl
                clear hl
                obtain ⟨kh13, _⟩ := hd
                obtain rfl : v13 = .bool true := kh13
                intro K hK
                obtain ⟨l0, l1, l2, l3, l4, l5⟩ := (BB.below hb).six
                simp only [fs, fo, fz, Act.put, s1, s2, s3] at hK ⊢
                refine ⟨?_⟩
                go_simp
                exact hK _ _ (Below.refl _ _) rfl
              · intro vs hl u1 hb hd
                obtain ⟨v0, v1, v2, v3, v4, v5, v6, v7, v8, v9, v10, v11, v12, v13, v14, v15, v16, v17, v18, v19, v20, v21, v22, v23, rfl⟩ := len24 hl
                clear hl
                obtain ⟨kh14, kh15, kh13, _, _⟩ := hd
                obtain rfl : v14 = .agg #[.int .i64 a0, .int .i64 a1, .int .i64 a2, .int .i64 a3, .int .i64 a4, .int .i64 a5] := kh14
                obtain rfl : v15 = .agg #[.int .i64 b0, .int .i64 b1, .int .i64 b2, .int .i64 b3, .int .i64 b4, .int .i64 b5] := kh15
                obtain rfl : v13 = .bool true := kh13
                intro K hK
                simp only [fs, fo, fz, Act.put, s1, s2, s3] at hK ⊢
                refine ⟨?_⟩
                go_simp
                refine (Hyh1.out _).mono ?_
                rintro e w2 ⟨rfl, hb2⟩
                exact hK _ _ hb2 rfl
              · intro vs hl u1 hb hd
                obtain ⟨v0, v1, v2, v3, v4, v5, v6, v7, v8, v9, v10, v11, v12, v13, v14, v15, v16, v17, v18, v19, v20, v21, v22, v23, rfl⟩ := len24 hl
                clear hl
                obtain ⟨kh13, kh16, _⟩ := hd
                obtain rfl : v13 = .bool true := kh13
                obtain rfl : v16 = .bool false := kh16
                intro K hK
                simp only [fs, fo, fz, Act.put, s1, s2, s3] at hK ⊢
                refine ⟨?_⟩
                go_simp
                exact hK _ _ (Below.refl _ _) rfl
              · intro vs hl u1 hb hd
                obtain ⟨v0, v1, v2, v3, v4, v5, v6, v7, v8, v9, v10, v11, v12, v13, v14, v15, v16, v17, v18, v19, v20, v21, v22, v23, rfl⟩ := len24 hl
                clear hl
                obtain ⟨kh17, kh16, _⟩ := hd
                obtain rfl : v17 = .bool false := kh17
                obtain rfl : v16 = .bool false := kh16
                intro K hK
                simp only [fs, fo, fz, Act.put, s1, s2, s3] at hK ⊢
                refine ⟨?_⟩
                go_simp
                exact hK _ _ (Below.refl _ _) rfl
              · intro vs hl u1 hb hd
                obtain ⟨v0, v1, v2, v3, v4, v5, v6, v7, v8, v9, v10, v11, v12, v13, v14, v15, v16, v17, v18, v19, v20, v21, v22, v23, rfl⟩ := len24 hl
                clear hl
                obtain ⟨kh18, _⟩ := hd
                obtain rfl : v18 = .bool false := kh18
                intro K hK
                simp only [fs, fo, fz, Act.put, s1, s2, s3] at hK ⊢
                refine ⟨?_⟩
                go_simp
                exact hK _ _ (Below.refl _ _) trivial
              · intro vs hl u1 hb hd
                obtain ⟨v0, v1, v2, v3, v4, v5, v6, v7, v8, v9, v10, v11, v12, v13, v14, v15, v16, v17, v18, v19, v20, v21, v22, v23, rfl⟩ := len24 hl
                clear hl
                obtain ⟨kh18, _⟩ := hd
                obtain rfl : v18 = .bool false := kh18
                intro K hK
                simp only [fs, fo, fz, Act.put, s1, s2, s3] at hK ⊢
                refine ⟨?_⟩
                go_simp
                exact hK _ _ (Below.refl _ _) trivial
              · intro vs hl u1 hb hd
                obtain ⟨v0, v1, v2, v3, v4, v5, v6, v7, v8, v9, v10, v11, v12, v13, v14, v15, v16, v17, v18, v19, v20, v21, v22, v23, rfl⟩ := len24 hl
                clear hl
                obtain ⟨_, _, kh18, _, _⟩ := hd
                obtain rfl : v18 = .bool false := kh18
                intro K hK
                simp only [fs, fo, fz, Act.put, s1, s2, s3] at hK ⊢
                refine ⟨?_⟩
                go_simp
                exact hK _ _ (Below.refl _ _) trivial
              · intro vs hl u1 hb hd
                obtain ⟨v0, v1, v2, v3, v4, v5, v6, v7, v8, v9, v10, v11, v12, v13, v14, v15, v16, v17, v18, v19, v20, v21, v22, v23, rfl⟩ := len24 hl
                clear hl
                obtain ⟨kh18, _, _⟩ := hd
                obtain rfl : v18 = .bool false := kh18
                intro K hK
                simp only [fs, fo, fz, Act.put, s1, s2, s3] at hK ⊢
                refine ⟨?_⟩
                go_simp
                exact hK _ _ (Below.refl _ _) rfl
              · intro vs hl u1 hb hd
                obtain ⟨v0, v1, v2, v3, v4, v5, v6, v7, v8, v9, v10, v11, v12, v13, v14, v15, v16, v17, v18, v19, v20, v21, v22, v23, rfl⟩ := len24 hl
                clear hl
                obtain ⟨kh22, _, kh0, kh1, kh2, kh3, kh4, kh5, kh6, kh7, kh8, kh9, kh10, kh11, kh12, kh13, kh14, kh15, kh16, kh17, kh18, _, _, _, _, _⟩ := hd
                obtain rfl : v22 = .bool false := kh22
                obtain rfl : v0 = .agg #[.int .i64 a2, .int .i64 a3] := kh0
                obtain rfl : v1 = .agg #[.int .i64 b2, .int .i64 b3] := kh1
                obtain rfl : v2 = .int .i64 d := kh2
                obtain rfl : v3 = .bool true := kh3
                obtain rfl : v4 = .bool true := kh4
                obtain rfl : v5 = .agg #[.int .i64 a2, .int .i64 a3] := kh5
                obtain rfl : v6 = .agg #[.int .i64 b2, .int .i64 b3] := kh6
                obtain rfl : v7 = .int .i64 c := kh7
                obtain rfl : v8 = .agg #[.int .i64 a2, .int .i64 a3] := kh8
                obtain rfl : v9 = .agg #[.int .i64 b2, .int .i64 b3] := kh9
                obtain rfl : v10 = .int .i64 d := kh10
                obtain rfl : v11 = .bool true := kh11
                obtain rfl : v12 = .bool true := kh12
                obtain rfl : v13 = .bool true := kh13
                obtain rfl : v14 = .agg #[.int .i64 a0, .int .i64 a1, .int .i64 a2, .int .i64 a3, .int .i64 a4, .int .i64 a5] := kh14
                obtain rfl : v15 = .agg #[.int .i64 b0, .int .i64 b1, .int .i64 b2, .int .i64 b3, .int .i64 b4, .int .i64 b5] := kh15
                obtain rfl : v16 = .bool false := kh16
                obtain rfl : v17 = .bool false := kh17
                obtain rfl : v18 = .bool false := kh18
                intro K hK
                simp only [fs, fo, fz, Act.put, s1, s2, s3] at hK ⊢
                refine ⟨?_⟩
                go_simp
                exact hK _ _ (Below.refl _ _) rfl
              · intro vs hl w4 hb hd ha
                obtain ⟨v0, v1, v2, v3, v4, v5, v6, v7, v8, v9, v10, v11, v12, v13, v14, v15, v16, v17, v18, v19, v20, v21, v22, v23, rfl⟩ := len24 hl
                clear hl
                obtain ⟨kh0, kh1, kh2, kh3, kh4, kh5, kh6, kh7, kh8, kh9, kh10, kh11, kh12, kh13, kh14, kh15, kh16, kh17, kh18, _, _, _, kh22, kh23, _⟩ := hd
                obtain rfl : v0 = .agg #[.int .i64 a2, .int .i64 a3] := kh0
                obtain rfl : v1 = .agg #[.int .i64 b2, .int .i64 b3] := kh1
                obtain rfl : v2 = .int .i64 d := kh2
                obtain rfl : v3 = .bool true := kh3
                obtain rfl : v4 = .bool true := kh4
                obtain rfl : v5 = .agg #[.int .i64 a2, .int .i64 a3] := kh5
                obtain rfl : v6 = .agg #[.int .i64 b2, .int .i64 b3] := kh6
                obtain rfl : v7 = .int .i64 c := kh7
                obtain rfl : v8 = .agg #[.int .i64 a2, .int .i64 a3] := kh8
                obtain rfl : v9 = .agg #[.int .i64 b2, .int .i64 b3] := kh9
                obtain rfl : v10 = .int .i64 d := kh10
                obtain rfl : v11 = .bool true := kh11
                obtain rfl : v12 = .bool true := kh12
                obtain rfl : v13 = .bool true := kh13
                obtain rfl : v14 = .agg #[.int .i64 a0, .int .i64 a1, .int .i64 a2, .int .i64 a3, .int .i64 a4, .int .i64 a5] := kh14
                obtain rfl : v15 = .agg #[.int .i64 b0, .int .i64 b1, .int .i64 b2, .int .i64 b3, .int .i64 b4, .int .i64 b5] := kh15
                obtain rfl : v16 = .bool false := kh16
                obtain rfl : v17 = .bool false := kh17
                obtain rfl : v18 = .bool false := kh18
                obtain rfl : v22 = .bool false := kh22
                obtain rfl : v23 = .bool false := kh23
                clear ha
                simp only [fs, fo, fz, Act.put, s1, s2, s3]
                replace BA := BA.below hb
                replace BB := BB.below hb
                replace B4 := B4.below hb
                replace B5 := B5.below hb
                replace HB := Aside0.mk (HB.out.trans ((Below.trans (show Below w3.heap.size w3 w3.drew from pw_below_drewN (Below.refl _ _) 1) hb).mono HB.out.size))
                clear hb
                go_wp2
                go_ret
                exact ⟨by first | rfl | (simp only [hp0]; rfl), HB.out⟩
            case true =>
              replace BA := BA.drew
              replace BB := BB.drew
              replace B4 := B4.drew
              replace B5 := B5.drew
              refine region_sp (by kernel_rfl) [some 19, some 20, some 21, some 22, some 23, some 24, some 25, some 26, some 27, some 28, some 29, some 30, some 31, some 32, some 33, some 34, some 35, some 36, some 37, some 38, some 39, some 40, some 41, some 4] [undef, undef, undef, undef, undef, undef, undef, undef, undef, undef, undef, undef, undef, undef, undef, undef, undef, undef, undef, undef, undef, undef, undef, .bool false] [Sp.val (fun v => v = .agg #[.int .i64 a2, .int .i64 a3]), Sp.val (fun v => v = .agg #[.int .i64 b2, .int .i64 b3]), Sp.val (fun v => v = .int .i64 d), Sp.val (fun v => v = .bool true), Sp.val (fun v => v = .bool true), Sp.val (fun v => v = .agg #[.int .i64 a2, .int .i64 a3]), Sp.val (fun v => v = .agg #[.int .i64 b2, .int .i64 b3]), Sp.val (fun v => v = .int .i64 c), Sp.val (fun v => v = .agg #[.int .i64 a2, .int .i64 a3]), Sp.val (fun v => v = .agg #[.int .i64 b2, .int .i64 b3]), Sp.val (fun v => v = .int .i64 d), Sp.val (fun v => v = .bool true), Sp.val (fun v => v = .bool true), Sp.val (fun v => v = .bool true), Sp.val (fun v => v = .agg #[.int .i64 a0, .int .i64 a1, .int .i64 a2, .int .i64 a3, .int .i64 a4, .int .i64 a5]), Sp.val (fun v => v = .agg #[.int .i64 b0, .int .i64 b1, .int .i64 b2, .int .i64 b3, .int .i64 b4, .int .i64 b5]), Sp.val (fun v => v = .bool true), Sp.val (fun v => v = .bool true), Sp.val (fun v => v = .bool true), Sp.val (fun v => v = .agg #[.int .i64 b0, .int .i64 b1, .int .i64 b2, .int .i64 b3, .int .i64 b4, .int .i64 b5]), Sp.val (fun v => v = .agg #[.int .i64 a0, .int .i64 a1, .int .i64 a2, .int .i64 a3, .int .i64 a4, .int .i64 a5]), Sp.val (fun v => v = .bool h2), Sp.val (fun v => v = .bool h2), Sp.val (fun v => v = .bool h2)] (by kernel_rfl) rfl (by kernel_rfl) ⟨?_, ?_, ?_, ?_, ?_, ?_, ?_, ?_, ?_, ?_, ?_, ?_, ?_, ?_, ?_, ?_, ?_, ?_, ?_, ?_, ?_, ?_, ?_, ?_, trivial⟩ ?_
              · intro vs hl u1 hb hd
                obtain ⟨v0, v1, v2, v3, v4, v5, v6, v7, v8, v9, v10, v11, v12, v13, v14, v15, v16, v17, v18, v19, v20, v21, v22, v23, rfl⟩ := len24 hl
                clear hl
                intro K hK
                obtain ⟨l0, l1⟩ := (B4.below hb).two
                simp only [fs, fo, fz, Act.put, s1, s2, s3] at hK ⊢
                refine ⟨?_⟩
                go_simp
                exact hK _ _ (Below.refl _ _) rfl
              · intro vs hl u1 hb hd
                obtain ⟨v0, v1, v2, v3, v4, v5, v6, v7, v8, v9, v10, v11, v12, v13, v14, v15, v16, v17, v18, v19, v20, v21, v22, v23, rfl⟩ := len24 hl
                clear hl
                intro K hK
                obtain ⟨l0, l1⟩ := (B5.below hb).two
                simp only [fs, fo, fz, Act.put, s1, s2, s3] at hK ⊢
                refine ⟨?_⟩
                go_simp
                exact hK _ _ (Below.refl _ _) rfl
              · intro vs hl u1 hb hd
                obtain ⟨v0, v1, v2, v3, v4, v5, v6, v7, v8, v9, v10, v11, v12, v13, v14, v15, v16, v17, v18, v19, v20, v21, v22, v23, rfl⟩ := len24 hl
                clear hl
                obtain ⟨kh0, kh1, _⟩ := hd
                obtain rfl : v0 = .agg #[.int .i64 a2, .int .i64 a3] := kh0
                obtain rfl : v1 = .agg #[.int .i64 b2, .int .i64 b3] := kh1
                intro K hK
                simp only [fs, fo, fz, Act.put, s1, s2, s3] at hK ⊢
                refine ⟨?_⟩
                go_simp
                refine (Hydt.out _).mono ?_
                rintro e w2 ⟨rfl, hb2⟩
                exact hK _ _ hb2 rfl
              · intro vs hl u1 hb hd
                obtain ⟨v0, v1, v2, v3, v4, v5, v6, v7, v8, v9, v10, v11, v12, v13, v14, v15, v16, v17, v18, v19, v20, v21, v22, v23, rfl⟩ := len24 hl
                clear hl
                obtain ⟨kh2, _⟩ := hd
                obtain rfl : v2 = .int .i64 d := kh2
                intro K hK
                simp only [fs, fo, fz, Act.put, s1, s2, s3] at hK ⊢
                refine ⟨?_⟩
                go_simp
                exact hK _ _ (Below.refl _ _) rfl
              · intro vs hl u1 hb hd
                obtain ⟨v0, v1, v2, v3, v4, v5, v6, v7, v8, v9, v10, v11, v12, v13, v14, v15, v16, v17, v18, v19, v20, v21, v22, v23, rfl⟩ := len24 hl
                clear hl
                obtain ⟨kh3, kh2, _⟩ := hd
                obtain rfl : v3 = .bool true := kh3
                obtain rfl : v2 = .int .i64 d := kh2
                intro K hK
                simp only [fs, fo, fz, Act.put, s1, s2, s3] at hK ⊢
                refine ⟨?_⟩
                go_simp
                exact hK _ _ (Below.refl _ _) rfl
              · intro vs hl u1 hb hd
                obtain ⟨v0, v1, v2, v3, v4, v5, v6, v7, v8, v9, v10, v11, v12, v13, v14, v15, v16, v17, v18, v19, v20, v21, v22, v23, rfl⟩ := len24 hl
                clear hl
                obtain ⟨kh4, _⟩ := hd
                obtain rfl : v4 = .bool true := kh4
                intro K hK
                obtain ⟨l0, l1⟩ := (B4.below hb).two
                simp only [fs, fo, fz, Act.put, s1, s2, s3] at hK ⊢
                refine ⟨?_⟩
                go_simp
                exact hK _ _ (Below.refl _ _) rfl
              · intro vs hl u1 hb hd
                obtain ⟨v0, v1, v2, v3, v4, v5, v6, v7, v8, v9, v10, v11, v12, v13, v14, v15, v16, v17, v18, v19, v20, v21, v22, v23, rfl⟩ := len24 hl
                clear hl
                obtain ⟨kh4, _⟩ := hd
                obtain rfl : v4 = .bool true := kh4
                intro K hK
                obtain ⟨l0, l1⟩ := (B5.below hb).two
                simp only [fs, fo, fz, Act.put, s1, s2, s3] at hK ⊢
                refine ⟨?_⟩
                go_simp
                exact hK _ _ (Below.refl _ _) rfl
              · intro vs hl u1 hb hd
                obtain ⟨v0, v1, v2, v3, v4, v5, v6, v7, v8, v9, v10, v11, v12, v13, v14, v15, v16, v17, v18, v19, v20, v21, v22, v23, rfl⟩ := len24 hl
                clear hl
                obtain ⟨kh5, kh6, kh4, _, _⟩ := hd
                obtain rfl : v5 = .agg #[.int .i64 a2, .int .i64 a3] := kh5
                obtain rfl : v6 = .agg #[.int .i64 b2, .int .i64 b3] := kh6
                obtain rfl : v4 = .bool true := kh4
                intro K hK
                simp only [fs, fo, fz, Act.put, s1, s2, s3] at hK ⊢
                refine ⟨?_⟩
                go_simp
                refine (Hycr.out _).mono ?_
                rintro e w2 ⟨rfl, hb2⟩
                exact hK _ _ hb2 rfl
              · intro vs hl u1 hb hd
                obtain ⟨v0, v1, v2, v3, v4, v5, v6, v7, v8, v9, v10, v11, v12, v13, v14, v15, v16, v17, v18, v19, v20, v21, v22, v23, rfl⟩ := len24 hl
                clear hl
                obtain ⟨kh4, _⟩ := hd
                obtain rfl : v4 = .bool true := kh4
                intro K hK
                obtain ⟨l0, l1⟩ := (B4.below hb).two
                simp only [fs, fo, fz, Act.put, s1, s2, s3] at hK ⊢
                refine ⟨?_⟩
                go_simp
                exact hK _ _ (Below.refl _ _) rfl
              · intro vs hl u1 hb hd
                obtain ⟨v0, v1, v2, v3, v4, v5, v6, v7, v8, v9, v10, v11, v12, v13, v14, v15, v16, v17, v18, v19, v20, v21, v22, v23, rfl⟩ := len24 hl
                clear hl
                obtain ⟨kh4, _⟩ := hd
                obtain rfl : v4 = .bool true := kh4
                intro K hK
                obtain ⟨l0, l1⟩ := (B5.below hb).two
                simp only [fs, fo, fz, Act.put, s1, s2, s3] at hK ⊢
                refine ⟨?_⟩
                go_simp
                exact hK _ _ (Below.refl _ _) rfl
              · intro vs hl u1 hb hd
                obtain ⟨v0, v1, v2, v3, v4, v5, v6, v7, v8, v9, v10, v11, v12, v13, v14, v15, v16, v17, v18, v19, v20, v21, v22, v23, rfl⟩ := len24 hl
                clear hl
                obtain ⟨kh8, kh9, kh7, kh4, _⟩ := hd
                obtain rfl : v8 = .agg #[.int .i64 a2, .int .i64 a3] := kh8
                obtain rfl : v9 = .agg #[.int .i64 b2, .int .i64 b3] := kh9
                obtain rfl : v7 = .int .i64 c := kh7
                obtain rfl : v4 = .bool true := kh4
                intro K hK
                simp only [fs, fo, fz, Act.put, s1, s2, s3] at hK ⊢
                refine ⟨?_⟩
                go_simp
                refine (Hydt.out _).mono ?_
                rintro e w2 ⟨rfl, hb2⟩
                exact hK _ _ hb2 rfl
              · intro vs hl u1 hb hd
                obtain ⟨v0, v1, v2, v3, v4, v5, v6, v7, v8, v9, v10, v11, v12, v13, v14, v15, v16, v17, v18, v19, v20, v21, v22, v23, rfl⟩ := len24 hl
                clear hl
                obtain ⟨kh7, kh10, _, kh4, _⟩ := hd
                obtain rfl : v7 = .int .i64 c := kh7
                obtain rfl : v10 = .int .i64 d := kh10
                obtain rfl : v4 = .bool true := kh4
                intro K hK
                simp only [fs, fo, fz, Act.put, s1, s2, s3] at hK ⊢
                refine ⟨?_⟩
                go_simp
                refine (Hyle.out _).mono ?_
                rintro e w2 ⟨rfl, hb2⟩
                exact hK _ _ hb2 rfl
              · intro vs hl u1 hb hd
                obtain ⟨v0, v1, v2, v3, v4, v5, v6, v7, v8, v9, v10, v11, v12, v13, v14, v15, v16, v17, v18, v19, v20, v21, v22, v23, rfl⟩ := len24 hl
                clear hl
                obtain ⟨kh4, kh11, _⟩ := hd
                obtain rfl : v4 = .bool true := kh4
                obtain rfl : v11 = .bool true := kh11
                intro K hK
                simp only [fs, fo, fz, Act.put, s1, s2, s3] at hK ⊢
                refine ⟨?_⟩
                go_simp
                exact hK _ _ (Below.refl _ _) rfl
              · intro vs hl u1 hb hd
                obtain ⟨v0, v1, v2, v3, v4, v5, v6, v7, v8, v9, v10, v11, v12, v13, v14, v15, v16, v17, v18, v19, v20, v21, v22, v23, rfl⟩ := len24 hl
                clear hl
                obtain ⟨kh12, kh11, _⟩ := hd
                obtain rfl : v12 = .bool true := kh12
                obtain rfl : v11 = .bool true := kh11
                intro K hK
                simp only [fs, fo, fz, Act.put, s1, s2, s3] at hK ⊢
                refine ⟨?_⟩
                go_simp
                exact hK _ _ (Below.refl _ _) rfl
              · intro vs hl u1 hb hd
                obtain ⟨v0, v1, v2, v3, v4, v5, v6, v7, v8, v9, v10, v11, v12, v13, v14, v15, v16, v17, v18, v19, v20, v21, v22, v23, rfl⟩ := len24 hl
                clear hl
                obtain ⟨kh13, _⟩ := hd
                obtain rfl : v13 = .bool true := kh13
                intro K hK
                obtain ⟨l0, l1, l2, l3, l4, l5⟩ := (BA.below hb).six
                simp only [fs, fo, fz, Act.put, s1, s2, s3] at hK ⊢
                refine ⟨?_⟩
                go_simp
                exact hK _ _ (Below.refl _ _) rfl
              · intro vs hl u1 hb hd
                obtain ⟨v0, v1, v2, v3, v4, v5, v6, v7, v8, v9, v10, v11, v12, v13, v14, v15, v16, v17, v18, v19, v20, v21, v22, v23, rfl⟩ := len24 hl
                clear hl
                obtain ⟨kh13, _⟩ := hd
                obtain rfl : v13 = .bool true := kh13
                intro K hK
                obtain ⟨l0, l1, l2, l3, l4, l5⟩ := (BB.below hb).six
                simp only [fs, fo, fz, Act.put, s1, s2, s3] at hK ⊢
                refine ⟨?_⟩
                go_simp
                exact hK _ _ (Below.refl _ _) rfl
              · intro vs hl u1 hb hd
                obtain ⟨v0, v1, v2, v3, v4, v5, v6, v7, v8, v9, v10, v11, v12, v13, v14, v15, v16, v17, v18, v19, v20, v21, v22, v23, rfl⟩ := len24 hl
                clear hl
                obtain ⟨kh14, kh15, kh13, _, _⟩ := hd
                obtain rfl : v14 = .agg #[.int .i64 a0, .int .i64 a1, .int .i64 a2, .int .i64 a3, .int .i64 a4, .int .i64 a5] := kh14
                obtain rfl : v15 = .agg #[.int .i64 b0, .int .i64 b1, .int .i64 b2, .int .i64 b3, .int .i64 b4, .int .i64 b5] := kh15
                obtain rfl : v13 = .bool true := kh13
                intro K hK
                simp only [fs, fo, fz, Act.put, s1, s2, s3] at hK ⊢
                refine ⟨?_⟩
                go_simp
                refine (Hyh1.out _).mono ?_
                rintro e w2 ⟨rfl, hb2⟩
                exact hK _ _ hb2 rfl
              · intro vs hl u1 hb hd
                obtain ⟨v0, v1, v2, v3, v4, v5, v6, v7, v8, v9, v10, v11, v12, v13, v14, v15, v16, v17, v18, v19, v20, v21, v22, v23, rfl⟩ := len24 hl
                clear hl
                obtain ⟨kh13, kh16, _⟩ := hd
                obtain rfl : v13 = .bool true := kh13
                obtain rfl : v16 = .bool true := kh16
                intro K hK
                simp only [fs, fo, fz, Act.put, s1, s2, s3] at hK ⊢
                refine ⟨?_⟩
                go_simp
                exact hK _ _ (Below.refl _ _) rfl
              · intro vs hl u1 hb hd
                obtain ⟨v0, v1, v2, v3, v4, v5, v6, v7, v8, v9, v10, v11, v12, v13, v14, v15, v16, v17, v18, v19, v20, v21, v22, v23, rfl⟩ := len24 hl
                clear hl
                obtain ⟨kh17, kh16, _⟩ := hd
                obtain rfl : v17 = .bool true := kh17
                obtain rfl : v16 = .bool true := kh16
                intro K hK
                simp only [fs, fo, fz, Act.put, s1, s2, s3] at hK ⊢
                refine ⟨?_⟩
                go_simp
                exact hK _ _ (Below.refl _ _) rfl
              · intro vs hl u1 hb hd
                obtain ⟨v0, v1, v2, v3, v4, v5, v6, v7, v8, v9, v10, v11, v12, v13, v14, v15, v16, v17, v18, v19, v20, v21, v22, v23, rfl⟩ := len24 hl
                clear hl
                obtain ⟨kh18, _⟩ := hd
                obtain rfl : v18 = .bool true := kh18
                intro K hK
                obtain ⟨l0, l1, l2, l3, l4, l5⟩ := (BB.below hb).six
                simp only [fs, fo, fz, Act.put, s1, s2, s3] at hK ⊢
                refine ⟨?_⟩
                go_simp
                exact hK _ _ (Below.refl _ _) rfl
              · intro vs hl u1 hb hd
                obtain ⟨v0, v1, v2, v3, v4, v5, v6, v7, v8, v9, v10, v11, v12, v13, v14, v15, v16, v17, v18, v19, v20, v21, v22, v23, rfl⟩ := len24 hl
                clear hl
                obtain ⟨kh18, _⟩ := hd
                obtain rfl : v18 = .bool true := kh18
                intro K hK
                obtain ⟨l0, l1, l2, l3, l4, l5⟩ := (BA.below hb).six
                simp only [fs, fo, fz, Act.put, s1, s2, s3] at hK ⊢
                refine ⟨?_⟩
                go_simp
                exact hK _ _ (Below.refl _ _) rfl
              · intro vs hl u1 hb hd
                obtain ⟨v0, v1, v2, v3, v4, v5, v6, v7, v8, v9, v10, v11, v12, v13, v14, v15, v16, v17, v18, v19, v20, v21, v22, v23, rfl⟩ := len24 hl
                clear hl
                obtain ⟨kh19, kh20, kh18, _, _⟩ := hd
                obtain rfl : v19 = .agg #[.int .i64 b0, .int .i64 b1, .int .i64 b2, .int .i64 b3, .int .i64 b4, .int .i64 b5] := kh19
                obtain rfl : v20 = .agg #[.int .i64 a0, .int .i64 a1, .int .i64 a2, .int .i64 a3, .int .i64 a4, .int .i64 a5] := kh20
                obtain rfl : v18 = .bool true := kh18
                intro K hK
                simp only [fs, fo, fz, Act.put, s1, s2, s3] at hK ⊢
                refine ⟨?_⟩
                go_simp
                refine (Hyh2.out _).mono ?_
                rintro e w2 ⟨rfl, hb2⟩
                exact hK _ _ hb2 rfl
              · intro vs hl u1 hb hd
                obtain ⟨v0, v1, v2, v3, v4, v5, v6, v7, v8, v9, v10, v11, v12, v13, v14, v15, v16, v17, v18, v19, v20, v21, v22, v23, rfl⟩ := len24 hl
                clear hl
                obtain ⟨kh18, kh21, _⟩ := hd
                obtain rfl : v18 = .bool true := kh18
                obtain rfl : v21 = .bool h2 := kh21
                intro K hK
                simp only [fs, fo, fz, Act.put, s1, s2, s3] at hK ⊢
                refine ⟨?_⟩
                go_simp
                exact hK _ _ (Below.refl _ _) rfl
              · intro vs hl u1 hb hd
                obtain ⟨v0, v1, v2, v3, v4, v5, v6, v7, v8, v9, v10, v11, v12, v13, v14, v15, v16, v17, v18, v19, v20, v21, v22, v23, rfl⟩ := len24 hl
                clear hl
                obtain ⟨kh22, kh21, kh0, kh1, kh2, kh3, kh4, kh5, kh6, kh7, kh8, kh9, kh10, kh11, kh12, kh13, kh14, kh15, kh16, kh17, kh18, kh19, kh20, _, _, _⟩ := hd
                obtain rfl : v22 = .bool h2 := kh22
                obtain rfl : v21 = .bool h2 := kh21
                obtain rfl : v0 = .agg #[.int .i64 a2, .int .i64 a3] := kh0
                obtain rfl : v1 = .agg #[.int .i64 b2, .int .i64 b3] := kh1
                obtain rfl : v2 = .int .i64 d := kh2
                obtain rfl : v3 = .bool true := kh3
                obtain rfl : v4 = .bool true := kh4
                obtain rfl : v5 = .agg #[.int .i64 a2, .int .i64 a3] := kh5
                obtain rfl : v6 = .agg #[.int .i64 b2, .int .i64 b3] := kh6
                obtain rfl : v7 = .int .i64 c := kh7
                obtain rfl : v8 = .agg #[.int .i64 a2, .int .i64 a3] := kh8
                obtain rfl : v9 = .agg #[.int .i64 b2, .int .i64 b3] := kh9
                obtain rfl : v10 = .int .i64 d := kh10
                obtain rfl : v11 = .bool true := kh11
                obtain rfl : v12 = .bool true := kh12
                obtain rfl : v13 = .bool true := kh13
                obtain rfl : v14 = .agg #[.int .i64 a0, .int .i64 a1, .int .i64 a2, .int .i64 a3, .int .i64 a4, .int .i64 a5] := kh14
                obtain rfl : v15 = .agg #[.int .i64 b0, .int .i64 b1, .int .i64 b2, .int .i64 b3, .int .i64 b4, .int .i64 b5] := kh15
                obtain rfl : v16 = .bool true := kh16
                obtain rfl : v17 = .bool true := kh17
                obtain rfl : v18 = .bool true := kh18
                obtain rfl : v19 = .agg #[.int .i64 b0, .int .i64 b1, .int .i64 b2, .int .i64 b3, .int .i64 b4, .int .i64 b5] := kh19
                obtain rfl : v20 = .agg #[.int .i64 a0, .int .i64 a1, .int .i64 a2, .int .i64 a3, .int .i64 a4, .int .i64 a5] := kh20
                intro K hK
                simp only [fs, fo, fz, Act.put, s1, s2, s3] at hK ⊢
                refine ⟨?_⟩
                go_simp
                exact hK _ _ (Below.refl _ _) rfl
              · intro vs hl w4 hb hd ha
                obtain ⟨v0, v1, v2, v3, v4, v5, v6, v7, v8, v9, v10, v11, v12, v13, v14, v15, v16, v17, v18, v19, v20, v21, v22, v23, rfl⟩ := len24 hl
                clear hl
                obtain ⟨kh0, kh1, kh2, kh3, kh4, kh5, kh6, kh7, kh8, kh9, kh10, kh11, kh12, kh13, kh14, kh15, kh16, kh17, kh18, kh19, kh20, kh21, kh22, kh23, _⟩ := hd
                obtain rfl : v0 = .agg #[.int .i64 a2, .int .i64 a3] := kh0
                obtain rfl : v1 = .agg #[.int .i64 b2, .int .i64 b3] := kh1
                obtain rfl : v2 = .int .i64 d := kh2
                obtain rfl : v3 = .bool true := kh3
                obtain rfl : v4 = .bool true := kh4
                obtain rfl : v5 = .agg #[.int .i64 a2, .int .i64 a3] := kh5
                obtain rfl : v6 = .agg #[.int .i64 b2, .int .i64 b3] := kh6
                obtain rfl : v7 = .int .i64 c := kh7
                obtain rfl : v8 = .agg #[.int .i64 a2, .int .i64 a3] := kh8
                obtain rfl : v9 = .agg #[.int .i64 b2, .int .i64 b3] := kh9
                obtain rfl : v10 = .int .i64 d := kh10
                obtain rfl : v11 = .bool true := kh11
                obtain rfl : v12 = .bool true := kh12
                obtain rfl : v13 = .bool true := kh13
                obtain rfl : v14 = .agg #[.int .i64 a0, .int .i64 a1, .int .i64 a2, .int .i64 a3, .int .i64 a4, .int .i64 a5] := kh14
                obtain rfl : v15 = .agg #[.int .i64 b0, .int .i64 b1, .int .i64 b2, .int .i64 b3, .int .i64 b4, .int .i64 b5] := kh15
                obtain rfl : v16 = .bool true := kh16
                obtain rfl : v17 = .bool true := kh17
                obtain rfl : v18 = .bool true := kh18
                obtain rfl : v19 = .agg #[.int .i64 b0, .int .i64 b1, .int .i64 b2, .int .i64 b3, .int .i64 b4, .int .i64 b5] := kh19
                obtain rfl : v20 = .agg #[.int .i64 a0, .int .i64 a1, .int .i64 a2, .int .i64 a3, .int .i64 a4, .int .i64 a5] := kh20
                obtain rfl : v21 = .bool h2 := kh21
                obtain rfl : v22 = .bool h2 := kh22
                obtain rfl : v23 = .bool h2 := kh23
                clear ha
                simp only [fs, fo, fz, Act.put, s1, s2, s3]
                replace BA := BA.below hb
                replace BB := BB.below hb
                replace B4 := B4.below hb
                replace B5 := B5.below hb
                replace HB := Aside0.mk (HB.out.trans ((Below.trans (show Below w3.heap.size w3 w3.drew from pw_below_drewN (Below.refl _ _) 1) hb).mono HB.out.size))
                clear hb
                go_wp2
                go_ret
                exact ⟨by first | rfl | (simp only [hp0]; rfl), HB.out⟩
set_option maxHeartbeats 8000000 in
set_option maxRecDepth 100000 in
theorem iheadon_any (a0 a1 a2 a3 a4 a5 b0 b1 b2 b3 b4 b5 d c q1 q2 m1 m2 n1 n2 : Int) (s1 s2 h1 h2 : Bool) (w : World)
    (yok1 : ∀ W : World, Calls Try.prog 17 #[.agg #[.int .i64 a0, .int .i64 a1, .int .i64 a2, .int .i64 a3, .int .i64 a4, .int .i64 a5]] W fun e w' => e = .returned (.bool s1) ∧ Below W.heap.size W w')
    (yok2 : ∀ W : World, Calls Try.prog 17 #[.agg #[.int .i64 b0, .int .i64 b1, .int .i64 b2, .int .i64 b3, .int .i64 b4, .int .i64 b5]] W fun e w' => e = .returned (.bool s2) ∧ Below W.heap.size W w')
    (ywa : ∀ W : World, Calls Try.prog 71 #[.agg #[.int .i64 a0, .int .i64 a1, .int .i64 a2, .int .i64 a3, .int .i64 a4, .int .i64 a5]] W fun e w' => e = .returned (.agg #[.int .i64 a2, .int .i64 a3]) ∧ Below W.heap.size W w')
    (ywb : ∀ W : World, Calls Try.prog 71 #[.agg #[.int .i64 b0, .int .i64 b1, .int .i64 b2, .int .i64 b3, .int .i64 b4, .int .i64 b5]] W fun e w' => e = .returned (.agg #[.int .i64 b2, .int .i64 b3]) ∧ Below W.heap.size W w')
    (ydt : ∀ W : World, Calls Try.prog 72 #[.agg #[.int .i64 a2, .int .i64 a3], .agg #[.int .i64 b2, .int .i64 b3]] W fun e w' => e = .returned (.int .i64 d) ∧ Below W.heap.size W w')
    (ycr : ∀ W : World, Calls Try.prog 74 #[.agg #[.int .i64 a2, .int .i64 a3], .agg #[.int .i64 b2, .int .i64 b3]] W fun e w' => e = .returned (.int .i64 c) ∧ Below W.heap.size W w')
    (ysc : ∀ W : World, Calls Try.prog 73 #[.int .i64 c] W fun e w' => e = .returned (.int .u64 q1) ∧ Below W.heap.size W w')
    (ysd : ∀ W : World, Calls Try.prog 73 #[.int .i64 d] W fun e w' => e = .returned (.int .u64 q2) ∧ Below W.heap.size W w')
    (yb1 : ∀ W : World, Calls Try.prog 70 #[.agg #[.int .i64 b0, .int .i64 b1, .int .i64 b2, .int .i64 b3, .int .i64 b4, .int .i64 b5], .agg #[.int .i64 a0, .int .i64 a1, .int .i64 a2, .int .i64 a3, .int .i64 a4, .int .i64 a5]] W fun e w' => e = .returned (.agg #[.int .i64 m1, .int .i64 m2]) ∧ Below W.heap.size W w')
    (yh1 : ∀ W : World, Calls Try.prog 76 #[.agg #[.int .i64 m1, .int .i64 m2], .agg #[.int .i64 a2, .int .i64 a3]] W fun e w' => e = .returned (.bool h1) ∧ Below W.heap.size W w')
    (yb2 : ∀ W : World, Calls Try.prog 70 #[.agg #[.int .i64 a0, .int .i64 a1, .int .i64 a2, .int .i64 a3, .int .i64 a4, .int .i64 a5], .agg #[.int .i64 b0, .int .i64 b1, .int .i64 b2, .int .i64 b3, .int .i64 b4, .int .i64 b5]] W fun e w' => e = .returned (.agg #[.int .i64 n1, .int .i64 n2]) ∧ Below W.heap.size W w')
    (yh2 : ∀ W : World, Calls Try.prog 76 #[.agg #[.int .i64 n1, .int .i64 n2], .agg #[.int .i64 b2, .int .i64 b3]] W fun e w' => e = .returned (.bool h2) ∧ Below W.heap.size W w') :
    Calls Try.prog 31 #[.agg #[.int .i64 a0, .int .i64 a1, .int .i64 a2, .int .i64 a3, .int .i64 a4, .int .i64 a5], .agg #[.int .i64 b0, .int .i64 b1, .int .i64 b2, .int .i64 b3, .int .i64 b4, .int .i64 b5]] w fun e w' => e = .returned (.bool (s1 && s2 && (decide (d < 0) && decide (IntKind.u64.wrap (q1 * 100) ≤ q2) && h1 && h2))) ∧ Below w.heap.size w w' := by
  have Hyok1 := Aside0.mk yok1
  have Hyok2 := Aside0.mk yok2
  have Hywa := Aside0.mk ywa
  have Hywb := Aside0.mk ywb
  have Hydt := Aside0.mk ydt
  have Hycr := Aside0.mk ycr
  have Hysc := Aside0.mk ysc
  have Hysd := Aside0.mk ysd
  have Hyb1 := Aside0.mk yb1
  have Hyh1 := Aside0.mk yh1
  have Hyb2 := Aside0.mk yb2
  have Hyh2 := Aside0.mk yh2
  clear yok1 yok2 ywa ywb ydt ycr ysc ysd yb1 yh1 yb2 yh2
  go_enter Try.func31, Try.ntmps31
  go_upto_region 1 with fail
  have BA : Blk ((w.alloc (.cells #[.int .i64 a0, .int .i64 a1, .int .i64 a2, .int .i64 a3, .int .i64 a4, .int .i64 a5] 25)).alloc (.cells #[.int .i64 b0, .int .i64 b1, .int .i64 b2, .int .i64 b3, .int .i64 b4, .int .i64 b5] 25)) (w.heap.size) 25 #[.int .i64 a0, .int .i64 a1, .int .i64 a2, .int .i64 a3, .int .i64 a4, .int .i64 a5] := (Blk.new w 25 #[.int .i64 a0, .int .i64 a1, .int .i64 a2, .int .i64 a3, .int .i64 a4, .int .i64 a5]).alloc (.cells #[.int .i64 b0, .int .i64 b1, .int .i64 b2, .int .i64 b3, .int .i64 b4, .int .i64 b5] 25)
  have BB : Blk ((w.alloc (.cells #[.int .i64 a0, .int .i64 a1, .int .i64 a2, .int .i64 a3, .int .i64 a4, .int .i64 a5] 25)).alloc (.cells #[.int .i64 b0, .int .i64 b1, .int .i64 b2, .int .i64 b3, .int .i64 b4, .int .i64 b5] 25)) (w.heap.size + 1) 25 #[.int .i64 b0, .int .i64 b1, .int .i64 b2, .int .i64 b3, .int .i64 b4, .int .i64 b5] := Blk.newAt 25 #[.int .i64 b0, .int .i64 b1, .int .i64 b2, .int .i64 b3, .int .i64 b4, .int .i64 b5] (by simp)
  have hb0 : Below w.heap.size w ((w.alloc (.cells #[.int .i64 a0, .int .i64 a1, .int .i64 a2, .int .i64 a3, .int .i64 a4, .int .i64 a5] 25)).alloc (.cells #[.int .i64 b0, .int .i64 b1, .int .i64 b2, .int .i64 b3, .int .i64 b4, .int .i64 b5] 25)) := ((Below.refl w.heap.size w).alloc (by simp) (.cells #[.int .i64 a0, .int .i64 a1, .int .i64 a2, .int .i64 a3, .int .i64 a4, .int .i64 a5] 25)).alloc (by simp) (.cells #[.int .i64 b0, .int .i64 b1, .int .i64 b2, .int .i64 b3, .int .i64 b4, .int .i64 b5] 25)
  generalize ((w.alloc (.cells #[.int .i64 a0, .int .i64 a1, .int .i64 a2, .int .i64 a3, .int .i64 a4, .int .i64 a5] 25)).alloc (.cells #[.int .i64 b0, .int .i64 b1, .int .i64 b2, .int .i64 b3, .int .i64 b4, .int .i64 b5] 25)) = W0 at BA BB hb0 ⊢
  have HB := Aside0.mk hb0
  clear hb0
  obtain ⟨qBA0, qBA1, qBA2, qBA3, qBA4, qBA5⟩ := BA.six
  have zBA := BA.lt
  obtain ⟨qBB0, qBB1, qBB2, qBB3, qBB4, qBB5⟩ := BB.six
  have zBB := BB.lt
  go_wp2_with fail
  refine (Hyok1.out _).mono ?_
  rintro e w1 ⟨rfl, hb⟩
  clear qBA0 qBA1 qBA2 qBA3 qBA4 qBA5 zBA
  clear qBB0 qBB1 qBB2 qBB3 qBB4 qBB5 zBB
  replace BA := BA.below hb
  replace BB := BB.below hb
  replace HB := Aside0.mk (HB.out.trans (hb.mono HB.out.size))
  clear hb
  cases s1
  case false =>
    obtain ⟨qBA0, qBA1, qBA2, qBA3, qBA4, qBA5⟩ := BA.six
    have zBA := BA.lt
    obtain ⟨qBB0, qBB1, qBB2, qBB3, qBB4, qBB5⟩ := BB.six
    have zBB := BB.lt
    go_wp2
    go_ret
    exact ⟨rfl, HB.out⟩
  case true =>
    obtain ⟨qBA0, qBA1, qBA2, qBA3, qBA4, qBA5⟩ := BA.six
    have zBA := BA.lt
    obtain ⟨qBB0, qBB1, qBB2, qBB3, qBB4, qBB5⟩ := BB.six
    have zBB := BB.lt
    go_wp2_with fail
    refine (Hyok2.out _).mono ?_
    rintro e w2 ⟨rfl, hb⟩
    clear qBA0 qBA1 qBA2 qBA3 qBA4 qBA5 zBA
    clear qBB0 qBB1 qBB2 qBB3 qBB4 qBB5 zBB
    replace BA := BA.below hb
    replace BB := BB.below hb
    replace HB := Aside0.mk (HB.out.trans (hb.mono HB.out.size))
    clear hb
    cases s2
    case false =>
      obtain ⟨qBA0, qBA1, qBA2, qBA3, qBA4, qBA5⟩ := BA.six
      have zBA := BA.lt
      obtain ⟨qBB0, qBB1, qBB2, qBB3, qBB4, qBB5⟩ := BB.six
      have zBB := BB.lt
      go_wp2
      go_ret
      exact ⟨rfl, HB.out⟩
    case true =>
      obtain ⟨qBA0, qBA1, qBA2, qBA3, qBA4, qBA5⟩ := BA.six
      have zBA := BA.lt
      obtain ⟨qBB0, qBB1, qBB2, qBB3, qBB4, qBB5⟩ := BB.six
      have zBB := BB.lt
      go_upto_region 3 with fail
      clear qBA0 qBA1 qBA2 qBA3 qBA4 qBA5 zBA
      clear qBB0 qBB1 qBB2 qBB3 qBB4 qBB5 zBB
      replace BA := BA.drew
      replace BB := BB.drew
      refine region_sp (by kernel_rfl) [some 15, some 16, some 17, some 18, some 5, some 6, none, none] [undef, undef, undef, undef, undef, undef, undef, undef] [Sp.val (fun v => v = .agg #[.int .i64 a0, .int .i64 a1, .int .i64 a2, .int .i64 a3, .int .i64 a4, .int .i64 a5]), Sp.val (fun v => v = .agg #[.int .i64 a2, .int .i64 a3]), Sp.val (fun v => v = .agg #[.int .i64 b0, .int .i64 b1, .int .i64 b2, .int .i64 b3, .int .i64 b4, .int .i64 b5]), Sp.val (fun v => v = .agg #[.int .i64 b2, .int .i64 b3]), Sp.new 89 #[.int .i64 0, .int .i64 0] 6 (fun cs => cs = #[.int .i64 a2, .int .i64 a3]), Sp.new 89 #[.int .i64 0, .int .i64 0] 7 (fun cs => cs = #[.int .i64 b2, .int .i64 b3]), Sp.put 4, Sp.put 5] (by kernel_rfl) rfl (by kernel_rfl) ⟨?_, ?_, ?_, ?_, ?_, ?_, ?_, ?_, trivial⟩ ?_
      · intro vs hl u1 hb hd
        obtain ⟨v0, v1, v2, v3, v4, v5, v6, v7, rfl⟩ := len8 hl
        clear hl
        intro K hK
        obtain ⟨l0, l1, l2, l3, l4, l5⟩ := (BA.below hb).six
        simp only [fs, fo, fz, Act.put, s1, s2, s3] at hK ⊢
        refine ⟨?_⟩
        go_simp
        exact hK _ _ (Below.refl _ _) rfl
      · intro vs hl u1 hb hd
        obtain ⟨v0, v1, v2, v3, v4, v5, v6, v7, rfl⟩ := len8 hl
        clear hl
        obtain ⟨kh0, _⟩ := hd
        obtain rfl : v0 = .agg #[.int .i64 a0, .int .i64 a1, .int .i64 a2, .int .i64 a3, .int .i64 a4, .int .i64 a5] := kh0
        intro K hK
        simp only [fs, fo, fz, Act.put, s1, s2, s3] at hK ⊢
        refine ⟨?_⟩
        go_simp
        refine (Hywa.out _).mono ?_
        rintro e w2 ⟨rfl, hb2⟩
        exact hK _ _ hb2 rfl
      · intro vs hl u1 hb hd
        obtain ⟨v0, v1, v2, v3, v4, v5, v6, v7, rfl⟩ := len8 hl
        clear hl
        intro K hK
        obtain ⟨l0, l1, l2, l3, l4, l5⟩ := (BB.below hb).six
        simp only [fs, fo, fz, Act.put, s1, s2, s3] at hK ⊢
        refine ⟨?_⟩
        go_simp
        exact hK _ _ (Below.refl _ _) rfl
      · intro vs hl u1 hb hd
        obtain ⟨v0, v1, v2, v3, v4, v5, v6, v7, rfl⟩ := len8 hl
        clear hl
        obtain ⟨kh2, kh1, _⟩ := hd
        obtain rfl : v2 = .agg #[.int .i64 b0, .int .i64 b1, .int .i64 b2, .int .i64 b3, .int .i64 b4, .int .i64 b5] := kh2
        obtain rfl : v1 = .agg #[.int .i64 a2, .int .i64 a3] := kh1
        intro K hK
        simp only [fs, fo, fz, Act.put, s1, s2, s3] at hK ⊢
        refine ⟨?_⟩
        go_simp
        refine (Hywb.out _).mono ?_
        rintro e w2 ⟨rfl, hb2⟩
        exact hK _ _ hb2 rfl
      · intro vs hl u1 hb hd
        obtain ⟨v0, v1, v2, v3, v4, v5, v6, v7, rfl⟩ := len8 hl
        clear hl
        intro K hK
        simp only [fs, fo, fz, Act.put, s1, s2, s3] at hK ⊢
        refine ⟨?_⟩
        go_simp
        exact hK
      · intro vs hl u1 hb hd
        obtain ⟨v0, v1, v2, v3, v4, v5, v6, v7, rfl⟩ := len8 hl
        clear hl
        intro K hK
        simp only [fs, fo, fz, Act.put, s1, s2, s3] at hK ⊢
        refine ⟨?_⟩
        go_simp
        exact hK
      · intro vs hl u1 hb hd
        obtain ⟨v0, v1, v2, v3, v4, v5, v6, v7, rfl⟩ := len8 hl
        clear hl
        obtain ⟨kh4, kh1, kh3, kh0, _, _, kh5, _⟩ := hd
        obtain ⟨g3_4, rfl, ka4, kb4, kc4, kd4, ke4⟩ := kh4
        obtain rfl : v1 = .agg #[.int .i64 a2, .int .i64 a3] := kh1
        obtain rfl : v3 = .agg #[.int .i64 b2, .int .i64 b3] := kh3
        obtain rfl : v0 = .agg #[.int .i64 a0, .int .i64 a1, .int .i64 a2, .int .i64 a3, .int .i64 a4, .int .i64 a5] := kh0
        obtain ⟨g3_5, rfl, ka5, kb5, kc5, kd5, ke5⟩ := kh5
        intro g hg hcs K hK
        cases hg
        obtain ⟨l0, l1⟩ := (Blk.mk hcs).two
        have m0 := (Blk.mk hcs).free 0
        have m1 := (Blk.mk hcs).free 1
        simp only [fs, fo, fz, Act.put, s1, s2, s3] at hK ⊢
        refine ⟨?_⟩
        go_simp
        exact hK _ (filled2 hcs rfl)
      · intro vs hl u1 hb hd
        obtain ⟨v0, v1, v2, v3, v4, v5, v6, v7, rfl⟩ := len8 hl
        clear hl
        obtain ⟨kh5, kh3, _, kh0, kh1, kh2, _, kh4, _, _, _⟩ := hd
        obtain ⟨g3_5, rfl, ka5, kb5, kc5, kd5, ke5⟩ := kh5
        obtain rfl : v3 = .agg #[.int .i64 b2, .int .i64 b3] := kh3
        obtain rfl : v0 = .agg #[.int .i64 a0, .int .i64 a1, .int .i64 a2, .int .i64 a3, .int .i64 a4, .int .i64 a5] := kh0
        obtain rfl : v1 = .agg #[.int .i64 a2, .int .i64 a3] := kh1
        obtain rfl : v2 = .agg #[.int .i64 b0, .int .i64 b1, .int .i64 b2, .int .i64 b3, .int .i64 b4, .int .i64 b5] := kh2
        obtain ⟨g3_4, rfl, ka4, kb4, kc4, kd4, ke4⟩ := kh4
        intro g hg hcs K hK
        cases hg
        obtain ⟨l0, l1⟩ := (Blk.mk hcs).two
        have m0 := (Blk.mk hcs).free 0
        have m1 := (Blk.mk hcs).free 1
        simp only [fs, fo, fz, Act.put, s1, s2, s3] at hK ⊢
        refine ⟨?_⟩
        go_simp
        exact hK _ (filled2 hcs rfl)
      · intro vs hl w3 hb hd ha
        obtain ⟨v0, v1, v2, v3, v4, v5, v6, v7, rfl⟩ := len8 hl
        clear hl
        obtain ⟨kh0, kh1, kh2, kh3, kh4, kh5, kh6, kh7, _⟩ := hd
        obtain rfl : v0 = .agg #[.int .i64 a0, .int .i64 a1, .int .i64 a2, .int .i64 a3, .int .i64 a4, .int .i64 a5] := kh0
        obtain rfl : v1 = .agg #[.int .i64 a2, .int .i64 a3] := kh1
        obtain rfl : v2 = .agg #[.int .i64 b0, .int .i64 b1, .int .i64 b2, .int .i64 b3, .int .i64 b4, .int .i64 b5] := kh2
        obtain rfl : v3 = .agg #[.int .i64 b2, .int .i64 b3] := kh3
        obtain ⟨g3_4, rfl, ka4, kb4, kc4, kd4, ke4⟩ := kh4
        clear ke4 kd4 kc4
        obtain ⟨g3_5, rfl, ka5, kb5, kc5, kd5, ke5⟩ := kh5
        clear ke5 kd5 kc5
        obtain ⟨g_, hg_, _, _, cs_, hcs_, hq_⟩ := kh6
        cases hg_
        subst hq_
        have B4 := Blk.mk hcs_
        clear hcs_
        obtain ⟨g_, hg_, _, _, cs_, hcs_, hq_⟩ := kh7
        cases hg_
        subst hq_
        have B5 := Blk.mk hcs_
        clear hcs_
        have ne4_5 : g3_4 ≠ g3_5 := by rintro rfl; exact ha 4 5 (by decide) rfl rfl rfl
        clear ha
        simp only [fs, fo, fz, Act.put, s1, s2, s3]
        replace BA := BA.below hb
        replace BB := BB.below hb
        replace HB := Aside0.mk (HB.out.trans ((Below.trans (show Below w2.heap.size w2 w2.drew from pw_below_drewN (Below.refl _ _) 1) hb).mono HB.out.size))
        clear hb
        go_upto_region 4 with fail
        rcases hp0 : (decide (d < 0) : Bool) with _ | _
        case false =>
          replace BA := BA.drew
          replace BB := BB.drew
          replace B4 := B4.drew
          replace B5 := B5.drew
          refine region_sp (by kernel_rfl) [some 19, some 20, some 21, some 22, some 23, some 24, some 25, some 26, some 27, some 28, some 29, some 30, some 31, some 32, some 33, some 34, some 35, some 36, some 37, some 38, some 39, some 40, some 41, some 42, some 43, some 44, some 45, some 46, some 47, some 48, some 4] [undef, undef, undef, undef, undef, undef, undef, undef, undef, undef, undef, undef, undef, undef, undef, undef, undef, undef, undef, undef, undef, undef, undef, undef, undef, undef, undef, undef, undef, undef, .bool false] [Sp.val (fun v => v = .agg #[.int .i64 a2, .int .i64 a3]), Sp.val (fun v => v = .agg #[.int .i64 b2, .int .i64 b3]), Sp.val (fun v => v = .int .i64 d), Sp.val (fun v => v = .bool false), Sp.val (fun v => v = .bool false), Sp.val (fun _ => True), Sp.val (fun _ => True), Sp.val (fun _ => True), Sp.val (fun _ => True), Sp.val (fun _ => True), Sp.val (fun _ => True), Sp.val (fun _ => True), Sp.val (fun _ => True), Sp.val (fun _ => True), Sp.val (fun _ => True), Sp.val (fun v => v = .bool false), Sp.val (fun v => v = .bool false), Sp.val (fun _ => True), Sp.val (fun _ => True), Sp.val (fun _ => True), Sp.val (fun _ => True), Sp.val (fun _ => True), Sp.val (fun v => v = .bool false), Sp.val (fun v => v = .bool false), Sp.val (fun _ => True), Sp.val (fun _ => True), Sp.val (fun _ => True), Sp.val (fun _ => True), Sp.val (fun _ => True), Sp.val (fun v => v = .bool false), Sp.val (fun v => v = .bool false)] (by kernel_rfl) rfl (by kernel_rfl) ⟨?_, ?_, ?_, ?_, ?_, ?_, ?_, ?_, ?_, ?_, ?_, ?_, ?_, ?_, ?_, ?_, ?_, ?_, ?_, ?_, ?_, ?_, ?_, ?_, ?_, ?_, ?_, ?_, ?_, ?_, ?_, trivial⟩ ?_
          · intro vs hl u1 hb hd
            obtain ⟨v0, v1, v2, v3, v4, v5, v6, v7, v8, v9, v10, v11, v12, v13, v14, v15, v16, v17, v18, v19, v20, v21, v22, v23, v24, v25, v26, v27, v28, v29, v30, rfl⟩ := len31 hl
            clear hl
            intro K hK
            obtain ⟨l0, l1⟩ := (B4.below hb).two
            simp only [fs, fo, fz, Act.put, s1, s2, s3] at hK ⊢
            refine ⟨?_⟩
            go_simp
            exact hK _ _ (Below.refl _ _) rfl
          · intro vs hl u1 hb hd
            obtain ⟨v0, v1, v2, v3, v4, v5, v6, v7, v8, v9, v10, v11, v12, v13, v14, v15, v16, v17, v18, v19, v20, v21, v22, v23, v24, v25, v26, v27, v28, v29, v30, rfl⟩ := len31 hl
            clear hl
            intro K hK
            obtain ⟨l0, l1⟩ := (B5.below hb).two
            simp only [fs, fo, fz, Act.put, s1, s2, s3] at hK ⊢
            refine ⟨?_⟩
            go_simp
            exact hK _ _ (Below.refl _ _) rfl
          · intro vs hl u1 hb hd
            obtain ⟨v0, v1, v2, v3, v4, v5, v6, v7, v8, v9, v10, v11, v12, v13, v14, v15, v16, v17, v18, v19, v20, v21, v22, v23, v24, v25, v26, v27, v28, v29, v30, rfl⟩ := len31 hl
            clear hl
            obtain ⟨kh0, kh1, _⟩ := hd
            obtain rfl : v0 = .agg #[.int .i64 a2, .int .i64 a3] := kh0
            obtain rfl : v1 = .agg #[.int .i64 b2, .int .i64 b3] := kh1
            intro K hK
            simp only [fs, fo, fz, Act.put, s1, s2, s3] at hK ⊢
            refine ⟨?_⟩
            go_simp
            refine (Hydt.out _).mono ?_
            rintro e w2 ⟨rfl, hb2⟩
            exact hK _ _ hb2 rfl
          · intro vs hl u1 hb hd
            obtain ⟨v0, v1, v2, v3, v4, v5, v6, v7, v8, v9, v10, v11, v12, v13, v14, v15, v16, v17, v18, v19, v20, v21, v22, v23, v24, v25, v26, v27, v28, v29, v30, rfl⟩ := len31 hl
            clear hl
            obtain ⟨kh2, _⟩ := hd
            obtain rfl : v2 = .int .i64 d := kh2
            intro K hK
            simp only [fs, fo, fz, Act.put, s1, s2, s3] at hK ⊢
            refine ⟨?_⟩
            go_simp
            exact hK _ _ (Below.refl _ _) rfl
          · intro vs hl u1 hb hd
            obtain ⟨v0, v1, v2, v3, v4, v5, v6, v7, v8, v9, v10, v11, v12, v13, v14, v15, v16, v17, v18, v19, v20, v21, v22, v23, v24, v25, v26, v27, v28, v29, v30, rfl⟩ := len31 hl
            clear hl
            obtain ⟨kh3, kh2, _⟩ := hd
            obtain rfl : v3 = .bool false := kh3
            obtain rfl : v2 = .int .i64 d := kh2
            intro K hK
            simp only [fs, fo, fz, Act.put, s1, s2, s3] at hK ⊢
            refine ⟨?_⟩
            go_simp
            exact hK _ _ (Below.refl _ _) rfl
          · intro vs hl u1 hb hd
            obtain ⟨v0, v1, v2, v3, v4, v5, v6, v7, v8, v9, v10, v11, v12, v13, v14, v15, v16, v17, v18, v19, v20, v21, v22, v23, v24, v25, v26, v27, v28, v29, v30, rfl⟩ := len31 hl
            clear hl
            obtain ⟨kh4, _⟩ := hd
            obtain rfl : v4 = .bool false := kh4
            intro K hK
            simp only [fs, fo, fz, Act.put, s1, s2, s3] at hK ⊢
            refine ⟨?_⟩
            go_simp
            exact hK _ _ (Below.refl _ _) trivial
          · intro vs hl u1 hb hd
            obtain ⟨v0, v1, v2, v3, v4, v5, v6, v7, v8, v9, v10, v11, v12, v13, v14, v15, v16, v17, v18, v19, v20, v21, v22, v23, v24, v25, v26, v27, v28, v29, v30, rfl⟩ := len31 hl
            clear hl
            obtain ⟨kh4, _⟩ := hd
            obtain rfl : v4 = .bool false := kh4
            intro K hK
            simp only [fs, fo, fz, Act.put, s1, s2, s3] at hK ⊢
            refine ⟨?_⟩
            go_simp
            exact hK _ _ (Below.refl _ _) trivial
          · intro vs hl u1 hb hd
            obtain ⟨v0, v1, v2, v3, v4, v5, v6, v7, v8, v9, v10, v11, v12, v13, v14, v15, v16, v17, v18, v19, v20, v21, v22, v23, v24, v25, v26, v27, v28, v29, v30, rfl⟩ := len31 hl
            clear hl
            obtain ⟨_, _, kh4, _, _⟩ := hd
            obtain rfl : v4 = .bool false := kh4
            intro K hK
            simp only [fs, fo, fz, Act.put, s1, s2, s3] at hK ⊢
            refine ⟨?_⟩
            go_simp
            exact hK _ _ (Below.refl _ _) trivial
          · intro vs hl u1 hb hd
            obtain ⟨v0, v1, v2, v3, v4, v5, v6, v7, v8, v9, v10, v11, v12, v13, v14, v15, v16, v17, v18, v19, v20, v21, v22, v23, v24, v25, v26, v27, v28, v29, v30, rfl⟩ := len31 hl
            clear hl
            obtain ⟨_, _, kh4, _⟩ := hd
            obtain rfl : v4 = .bool false := kh4
            intro K hK
            simp only [fs, fo, fz, Act.put, s1, s2, s3] at hK ⊢
            refine ⟨?_⟩
            go_simp
            exact hK _ _ (Below.refl _ _) trivial
          · intro vs hl u1 hb hd
            obtain ⟨v0, v1, v2, v3, v4, v5, v6, v7, v8, v9, v10, v11, v12, v13, v14, v15, v16, v17, v18, v19, v20, v21, v22, v23, v24, v25, v26, v27, v28, v29, v30, rfl⟩ := len31 hl
            clear hl
            obtain ⟨_, kh4, _⟩ := hd
            obtain rfl : v4 = .bool false := kh4
            intro K hK
            simp only [fs, fo, fz, Act.put, s1, s2, s3] at hK ⊢
            refine ⟨?_⟩
            go_simp
            exact hK _ _ (Below.refl _ _) trivial
          · intro vs hl u1 hb hd
            obtain ⟨v0, v1, v2, v3, v4, v5, v6, v7, v8, v9, v10, v11, v12, v13, v14, v15, v16, v17, v18, v19, v20, v21, v22, v23, v24, v25, v26, v27, v28, v29, v30, rfl⟩ := len31 hl
            clear hl
            obtain ⟨kh4, _⟩ := hd
            obtain rfl : v4 = .bool false := kh4
            intro K hK
            simp only [fs, fo, fz, Act.put, s1, s2, s3] at hK ⊢
            refine ⟨?_⟩
            go_simp
            exact hK _ _ (Below.refl _ _) trivial
          · intro vs hl u1 hb hd
            obtain ⟨v0, v1, v2, v3, v4, v5, v6, v7, v8, v9, v10, v11, v12, v13, v14, v15, v16, v17, v18, v19, v20, v21, v22, v23, v24, v25, v26, v27, v28, v29, v30, rfl⟩ := len31 hl
            clear hl
            obtain ⟨kh4, _⟩ := hd
            obtain rfl : v4 = .bool false := kh4
            intro K hK
            simp only [fs, fo, fz, Act.put, s1, s2, s3] at hK ⊢
            refine ⟨?_⟩
            go_simp
            exact hK _ _ (Below.refl _ _) trivial
          · intro vs hl u1 hb hd
            obtain ⟨v0, v1, v2, v3, v4, v5, v6, v7, v8, v9, v10, v11, v12, v13, v14, v15, v16, v17, v18, v19, v20, v21, v22, v23, v24, v25, v26, v27, v28, v29, v30, rfl⟩ := len31 hl
            clear hl
            obtain ⟨_, _, _, kh4, _⟩ := hd
            obtain rfl : v4 = .bool false := kh4
            intro K hK
            simp only [fs, fo, fz, Act.put, s1, s2, s3] at hK ⊢
            refine ⟨?_⟩
            go_simp
            exact hK _ _ (Below.refl _ _) trivial
          · intro vs hl u1 hb hd
            obtain ⟨v0, v1, v2, v3, v4, v5, v6, v7, v8, v9, v10, v11, v12, v13, v14, v15, v16, v17, v18, v19, v20, v21, v22, v23, v24, v25, v26, v27, v28, v29, v30, rfl⟩ := len31 hl
            clear hl
            obtain ⟨_, _, kh4, _⟩ := hd
            obtain rfl : v4 = .bool false := kh4
            intro K hK
            simp only [fs, fo, fz, Act.put, s1, s2, s3] at hK ⊢
            refine ⟨?_⟩
            go_simp
            exact hK _ _ (Below.refl _ _) trivial
          · intro vs hl u1 hb hd
            obtain ⟨v0, v1, v2, v3, v4, v5, v6, v7, v8, v9, v10, v11, v12, v13, v14, v15, v16, v17, v18, v19, v20, v21, v22, v23, v24, v25, v26, v27, v28, v29, v30, rfl⟩ := len31 hl
            clear hl
            obtain ⟨_, _, kh4, _⟩ := hd
            obtain rfl : v4 = .bool false := kh4
            intro K hK
            simp only [fs, fo, fz, Act.put, s1, s2, s3] at hK ⊢
            refine ⟨?_⟩
            go_simp
            exact hK _ _ (Below.refl _ _) trivial
          · intro vs hl u1 hb hd
            obtain ⟨v0, v1, v2, v3, v4, v5, v6, v7, v8, v9, v10, v11, v12, v13, v14, v15, v16, v17, v18, v19, v20, v21, v22, v23, v24, v25, v26, v27, v28, v29, v30, rfl⟩ := len31 hl
            clear hl
            obtain ⟨kh4, _, _⟩ := hd
            obtain rfl : v4 = .bool false := kh4
            intro K hK
            simp only [fs, fo, fz, Act.put, s1, s2, s3] at hK ⊢
            refine ⟨?_⟩
            go_simp
            exact hK _ _ (Below.refl _ _) rfl
          · intro vs hl u1 hb hd
            obtain ⟨v0, v1, v2, v3, v4, v5, v6, v7, v8, v9, v10, v11, v12, v13, v14, v15, v16, v17, v18, v19, v20, v21, v22, v23, v24, v25, v26, v27, v28, v29, v30, rfl⟩ := len31 hl
            clear hl
            obtain ⟨kh15, _, _⟩ := hd
            obtain rfl : v15 = .bool false := kh15
            intro K hK
            simp only [fs, fo, fz, Act.put, s1, s2, s3] at hK ⊢
            refine ⟨?_⟩
            go_simp
            exact hK _ _ (Below.refl _ _) rfl
          · intro vs hl u1 hb hd
            obtain ⟨v0, v1, v2, v3, v4, v5, v6, v7, v8, v9, v10, v11, v12, v13, v14, v15, v16, v17, v18, v19, v20, v21, v22, v23, v24, v25, v26, v27, v28, v29, v30, rfl⟩ := len31 hl
            clear hl
            obtain ⟨kh16, _⟩ := hd
            obtain rfl : v16 = .bool false := kh16
            intro K hK
            simp only [fs, fo, fz, Act.put, s1, s2, s3] at hK ⊢
            refine ⟨?_⟩
            go_simp
            exact hK _ _ (Below.refl _ _) trivial
          · intro vs hl u1 hb hd
            obtain ⟨v0, v1, v2, v3, v4, v5, v6, v7, v8, v9, v10, v11, v12, v13, v14, v15, v16, v17, v18, v19, v20, v21, v22, v23, v24, v25, v26, v27, v28, v29, v30, rfl⟩ := len31 hl
            clear hl
            obtain ⟨kh16, _⟩ := hd
            obtain rfl : v16 = .bool false := kh16
            intro K hK
            simp only [fs, fo, fz, Act.put, s1, s2, s3] at hK ⊢
            refine ⟨?_⟩
            go_simp
            exact hK _ _ (Below.refl _ _) trivial
          · intro vs hl u1 hb hd
            obtain ⟨v0, v1, v2, v3, v4, v5, v6, v7, v8, v9, v10, v11, v12, v13, v14, v15, v16, v17, v18, v19, v20, v21, v22, v23, v24, v25, v26, v27, v28, v29, v30, rfl⟩ := len31 hl
            clear hl
            obtain ⟨_, _, kh16, _, _⟩ := hd
            obtain rfl : v16 = .bool false := kh16
            intro K hK
            simp only [fs, fo, fz, Act.put, s1, s2, s3] at hK ⊢
            refine ⟨?_⟩
            go_simp
            exact hK _ _ (Below.refl _ _) trivial
          · intro vs hl u1 hb hd
            obtain ⟨v0, v1, v2, v3, v4, v5, v6, v7, v8, v9, v10, v11, v12, v13, v14, v15, v16, v17, v18, v19, v20, v21, v22, v23, v24, v25, v26, v27, v28, v29, v30, rfl⟩ := len31 hl
            clear hl
            obtain ⟨kh16, _⟩ := hd
            obtain rfl : v16 = .bool false := kh16
            intro K hK
            simp only [fs, fo, fz, Act.put, s1, s2, s3] at hK ⊢
            refine ⟨?_⟩
            go_simp
            exact hK _ _ (Below.refl _ _) trivial
          · intro vs hl u1 hb hd
            obtain ⟨v0, v1, v2, v3, v4, v5, v6, v7, v8, v9, v10, v11, v12, v13, v14, v15, v16, v17, v18, v19, v20, v21, v22, v23, v24, v25, v26, v27, v28, v29, v30, rfl⟩ := len31 hl
            clear hl
            obtain ⟨_, _, _, kh16, _⟩ := hd
            obtain rfl : v16 = .bool false := kh16
            intro K hK
            simp only [fs, fo, fz, Act.put, s1, s2, s3] at hK ⊢
            refine ⟨?_⟩
            go_simp
            exact hK _ _ (Below.refl _ _) trivial
          · intro vs hl u1 hb hd
            obtain ⟨v0, v1, v2, v3, v4, v5, v6, v7, v8, v9, v10, v11, v12, v13, v14, v15, v16, v17, v18, v19, v20, v21, v22, v23, v24, v25, v26, v27, v28, v29, v30, rfl⟩ := len31 hl
            clear hl
            obtain ⟨kh16, _, _⟩ := hd
            obtain rfl : v16 = .bool false := kh16
            intro K hK
            simp only [fs, fo, fz, Act.put, s1, s2, s3] at hK ⊢
            refine ⟨?_⟩
            go_simp
            exact hK _ _ (Below.refl _ _) rfl
          · intro vs hl u1 hb hd
            obtain ⟨v0, v1, v2, v3, v4, v5, v6, v7, v8, v9, v10, v11, v12, v13, v14, v15, v16, v17, v18, v19, v20, v21, v22, v23, v24, v25, v26, v27, v28, v29, v30, rfl⟩ := len31 hl
            clear hl
            obtain ⟨kh22, _, _⟩ := hd
            obtain rfl : v22 = .bool false := kh22
            intro K hK
            simp only [fs, fo, fz, Act.put, s1, s2, s3] at hK ⊢
            refine ⟨?_⟩
            go_simp
            exact hK _ _ (Below.refl _ _) rfl
          · intro vs hl u1 hb hd
            obtain ⟨v0, v1, v2, v3, v4, v5, v6, v7, v8, v9, v10, v11, v12, v13, v14, v15, v16, v17, v18, v19, v20, v21, v22, v23, v24, v25, v26, v27, v28, v29, v30, rfl⟩ := len31 hl
            clear hl
            obtain ⟨kh23, _⟩ := hd
            obtain rfl : v23 = .bool false := kh23
            intro K hK
            simp only [fs, fo, fz, Act.put, s1, s2, s3] at hK ⊢
            refine ⟨?_⟩
            go_simp
            exact hK _ _ (Below.refl _ _) trivial
          · intro vs hl u1 hb hd
            obtain ⟨v0, v1, v2, v3, v4, v5, v6, v7, v8, v9, v10, v11, v12, v13, v14, v15, v16, v17, v18, v19, v20, v21, v22, v23, v24, v25, v26, v27, v28, v29, v30, rfl⟩ := len31 hl
            clear hl
            obtain ⟨kh23, _⟩ := hd
            obtain rfl : v23 = .bool false := kh23
            intro K hK
            simp only [fs, fo, fz, Act.put, s1, s2, s3] at hK ⊢
            refine ⟨?_⟩
            go_simp
            exact hK _ _ (Below.refl _ _) trivial
          · intro vs hl u1 hb hd
            obtain ⟨v0, v1, v2, v3, v4, v5, v6, v7, v8, v9, v10, v11, v12, v13, v14, v15, v16, v17, v18, v19, v20, v21, v22, v23, v24, v25, v26, v27, v28, v29, v30, rfl⟩ := len31 hl
            clear hl
            obtain ⟨_, _, kh23, _, _⟩ := hd
            obtain rfl : v23 = .bool false := kh23
            intro K hK
            simp only [fs, fo, fz, Act.put, s1, s2, s3] at hK ⊢
            refine ⟨?_⟩
            go_simp
            exact hK _ _ (Below.refl _ _) trivial
          · intro vs hl u1 hb hd
            obtain ⟨v0, v1, v2, v3, v4, v5, v6, v7, v8, v9, v10, v11, v12, v13, v14, v15, v16, v17, v18, v19, v20, v21, v22, v23, v24, v25, v26, v27, v28, v29, v30, rfl⟩ := len31 hl
            clear hl
            obtain ⟨kh23, _⟩ := hd
            obtain rfl : v23 = .bool false := kh23
            intro K hK
            simp only [fs, fo, fz, Act.put, s1, s2, s3] at hK ⊢
            refine ⟨?_⟩
            go_simp
            exact hK _ _ (Below.refl _ _) trivial
          · intro vs hl u1 hb hd
            obtain ⟨v0, v1, v2, v3, v4, v5, v6, v7, v8, v9, v10, v11, v12, v13, v14, v15, v16, v17, v18, v19, v20, v21, v22, v23, v24, v25, v26, v27, v28, v29, v30, rfl⟩ := len31 hl
            clear hl
            obtain ⟨_, _, _, kh23, _⟩ := hd
            obtain rfl : v23 = .bool false := kh23
            intro K hK
            simp only [fs, fo, fz, Act.put, s1, s2, s3] at hK ⊢
            refine ⟨?_⟩
            go_simp
            exact hK _ _ (Below.refl _ _) trivial
          · intro vs hl u1 hb hd
            obtain ⟨v0, v1, v2, v3, v4, v5, v6, v7, v8, v9, v10, v11, v12, v13, v14, v15, v16, v17, v18, v19, v20, v21, v22, v23, v24, v25, v26, v27, v28, v29, v30, rfl⟩ := len31 hl
            clear hl
            obtain ⟨kh23, _, _⟩ := hd
            obtain rfl : v23 = .bool false := kh23
            intro K hK
            simp only [fs, fo, fz, Act.put, s1, s2, s3] at hK ⊢
            refine ⟨?_⟩
            go_simp
            exact hK _ _ (Below.refl _ _) rfl
          · intro vs hl u1 hb hd
            obtain ⟨v0, v1, v2, v3, v4, v5, v6, v7, v8, v9, v10, v11, v12, v13, v14, v15, v16, v17, v18, v19, v20, v21, v22, v23, v24, v25, v26, v27, v28, v29, v30, rfl⟩ := len31 hl
            clear hl
            obtain ⟨kh29, _, kh0, kh1, kh2, kh3, kh4, _, _, _, _, _, _, _, _, _, _, kh15, kh16, _, _, _, _, _, kh22, kh23, _, _, _, _, _, _, _⟩ := hd
            obtain rfl : v29 = .bool false := kh29
            obtain rfl : v0 = .agg #[.int .i64 a2, .int .i64 a3] := kh0
            obtain rfl : v1 = .agg #[.int .i64 b2, .int .i64 b3] := kh1
            obtain rfl : v2 = .int .i64 d := kh2
            obtain rfl : v3 = .bool false := kh3
            obtain rfl : v4 = .bool false := kh4
            obtain rfl : v15 = .bool false := kh15
            obtain rfl : v16 = .bool false := kh16
            obtain rfl : v22 = .bool false := kh22
            obtain rfl : v23 = .bool false := kh23
            intro K hK
            simp only [fs, fo, fz, Act.put, s1, s2, s3] at hK ⊢
            refine ⟨?_⟩
            go_simp
            exact hK _ _ (Below.refl _ _) rfl
          · intro vs hl w4 hb hd ha
            obtain ⟨v0, v1, v2, v3, v4, v5, v6, v7, v8, v9, v10, v11, v12, v13, v14, v15, v16, v17, v18, v19, v20, v21, v22, v23, v24, v25, v26, v27, v28, v29, v30, rfl⟩ := len31 hl
            clear hl
            obtain ⟨kh0, kh1, kh2, kh3, kh4, _, _, _, _, _, _, _, _, _, _, kh15, kh16, _, _, _, _, _, kh22, kh23, _, _, _, _, _, kh29, kh30, _⟩ := hd
            obtain rfl : v0 = .agg #[.int .i64 a2, .int .i64 a3] := kh0
            obtain rfl : v1 = .agg #[.int .i64 b2, .int .i64 b3] := kh1
            obtain rfl : v2 = .int .i64 d := kh2
            obtain rfl : v3 = .bool false := kh3
            obtain rfl : v4 = .bool false := kh4
            obtain rfl : v15 = .bool false := kh15
            obtain rfl : v16 = .bool false := kh16
            obtain rfl : v22 = .bool false := kh22
            obtain rfl : v23 = .bool false := kh23
            obtain rfl : v29 = .bool false := kh29
            obtain rfl : v30 = .bool false := kh30
            clear ha
            simp only [fs, fo, fz, Act.put, s1, s2, s3]
            replace BA := BA.below hb
            replace BB := BB.below hb
            replace B4 := B4.below hb
            replace B5 := B5.below hb
            replace HB := Aside0.mk (HB.out.trans ((Below.trans (show Below w3.heap.size w3 w3.drew from pw_below_drewN (Below.refl _ _) 1) hb).mono HB.out.size))
            clear hb
            go_wp2
            go_ret
            exact ⟨by first | rfl | (simp only [hp0]; rfl), HB.out⟩
        case true =>
          rcases hp1 : (decide (IntKind.u64.wrap (q1 * 100) ≤ q2) : Bool) with _ | _
          case false =>
            replace BA := BA.drew
            replace BB := BB.drew
            replace B4 := B4.drew
            replace B5 := B5.drew
            refine region_sp (by kernel_rfl) [some 19, some 20, some 21, some 22, some 23, some 24, some 25, some 26, some 27, some 28, some 29, some 30, some 31, some 32, some 33, some 34, some 35, some 36, some 37, some 38, some 39, some 40, some 41, some 42, some 43, some 44, some 45, some 46, some 47, some 48, some 4] [undef, undef, undef, undef, undef, undef, undef, undef, undef, undef, undef, undef, undef, undef, undef, undef, undef, undef, undef, undef, undef, undef, undef, undef, undef, undef, undef, undef, undef, undef, .bool false] [Sp.val (fun v => v = .agg #[.int .i64 a2, .int .i64 a3]), Sp.val (fun v => v = .agg #[.int .i64 b2, .int .i64 b3]), Sp.val (fun v => v = .int .i64 d), Sp.val (fun v => v = .bool true), Sp.val (fun v => v = .bool true), Sp.val (fun v => v = .agg #[.int .i64 a2, .int .i64 a3]), Sp.val (fun v => v = .agg #[.int .i64 b2, .int .i64 b3]), Sp.val (fun v => v = .int .i64 c), Sp.val (fun v => v = .int .u64 q1), Sp.val (fun v => v = .int .u64 (IntKind.u64.wrap (q1 * 100))), Sp.val (fun v => v = .agg #[.int .i64 a2, .int .i64 a3]), Sp.val (fun v => v = .agg #[.int .i64 b2, .int .i64 b3]), Sp.val (fun v => v = .int .i64 d), Sp.val (fun v => v = .int .u64 q2), Sp.val (fun v => v = .bool false), Sp.val (fun v => v = .bool false), Sp.val (fun v => v = .bool false), Sp.val (fun _ => True), Sp.val (fun _ => True), Sp.val (fun _ => True), Sp.val (fun _ => True), Sp.val (fun _ => True), Sp.val (fun v => v = .bool false), Sp.val (fun v => v = .bool false), Sp.val (fun _ => True), Sp.val (fun _ => True), Sp.val (fun _ => True), Sp.val (fun _ => True), Sp.val (fun _ => True), Sp.val (fun v => v = .bool false), Sp.val (fun v => v = .bool false)] (by kernel_rfl) rfl (by kernel_rfl) ⟨?_, ?_, ?_, ?_, ?_, ?_, ?_, ?_, ?_, ?_, ?_, ?_, ?_, ?_, ?_, ?_, ?_, ?_, ?_, ?_, ?_, ?_, ?_, ?_, ?_, ?_, ?_, ?_, ?_, ?_, ?_, trivial⟩ ?_
            · intro vs hl u1 hb hd
              obtain ⟨v0, v1, v2, v3, v4, v5, v6, v7, v8, v9, v10, v11, v12, v13, v14, v15, v16, v17, v18, v19, v20, v21, v22, v23, v24, v25, v26, v27, v28, v29, v30, rfl⟩ := len31 hl
              clear hl
              intro K hK
              obtain ⟨l0, l1⟩ := (B4.below hb).two
              simp only [fs, fo, fz, Act.put, s1, s2, s3] at hK ⊢
              refine ⟨?_⟩
              go_simp
              exact hK _ _ (Below.refl _ _) rfl
            · intro vs hl u1 hb hd
              obtain ⟨v0, v1, v2, v3, v4, v5, v6, v7, v8, v9, v10, v11, v12, v13, v14, v15, v16, v17, v18, v19, v20, v21, v22, v23, v24, v25, v26, v27, v28, v29, v30, rfl⟩ := len31 hl
              clear hl
              intro K hK
              obtain ⟨l0, l1⟩ := (B5.below hb).two
              simp only [fs, fo, fz, Act.put, s1, s2, s3] at hK ⊢
              refine ⟨?_⟩
              go_simp
              exact hK _ _ (Below.refl _ _) rfl
            · intro vs hl u1 hb hd
              obtain ⟨v0, v1, v2, v3, v4, v5, v6, v7, v8, v9, v10, v11, v12, v13, v14, v15, v16, v17, v18, v19, v20, v21, v22, v23, v24, v25, v26, v27, v28, v29, v30, rfl⟩ := len31 hl
              clear hl
              obtain ⟨kh0, kh1, _⟩ := hd
              obtain rfl : v0 = .agg #[.int .i64 a2, .int .i64 a3] := kh0
              obtain rfl : v1 = .agg #[.int .i64 b2, .int .i64 b3] := kh1
              intro K hK
              simp only [fs, fo, fz, Act.put, s1, s2, s3] at hK ⊢
              refine ⟨?_⟩
              go_simp
              refine (Hydt.out _).mono ?_
              rintro e w2 ⟨rfl, hb2⟩
              exact hK _ _ hb2 rfl
            · intro vs hl u1 hb hd
              obtain ⟨v0, v1, v2, v3, v4, v5, v6, v7, v8, v9, v10, v11, v12, v13, v14, v15, v16, v17, v18, v19, v20, v21, v22, v23, v24, v25, v26, v27, v28, v29, v30, rfl⟩ := len31 hl
              clear hl
              obtain ⟨kh2, _⟩ := hd
              obtain rfl : v2 = .int .i64 d := kh2
              intro K hK
              simp only [fs, fo, fz, Act.put, s1, s2, s3] at hK ⊢
              refine ⟨?_⟩
              go_simp
              exact hK _ _ (Below.refl _ _) rfl
            · intro vs hl u1 hb hd
              obtain ⟨v0, v1, v2, v3, v4, v5, v6, v7, v8, v9, v10, v11, v12, v13, v14, v15, v16, v17, v18, v19, v20, v21, v22, v23, v24, v25, v26, v27, v28, v29, v30, rfl⟩ := len31 hl
              clear hl
              obtain ⟨kh3, kh2, _⟩ := hd
              obtain rfl : v3 = .bool true := kh3
              obtain rfl : v2 = .int .i64 d := kh2
              intro K hK
              simp only [fs, fo, fz, Act.put, s1, s2, s3] at hK ⊢
              refine ⟨?_⟩
              go_simp
              exact hK _ _ (Below.refl _ _) rfl
            · intro vs hl u1 hb hd
              obtain ⟨v0, v1, v2, v3, v4, v5, v6, v7, v8, v9, v10, v11, v12, v13, v14, v15, v16, v17, v18, v19, v20, v21, v22, v23, v24, v25, v26, v27, v28, v29, v30, rfl⟩ := len31 hl
              clear hl
              obtain ⟨kh4, _⟩ := hd
              obtain rfl : v4 = .bool true := kh4
              intro K hK
              obtain ⟨l0, l1⟩ := (B4.below hb).two
              simp only [fs, fo, fz, Act.put, s1, s2, s3] at hK ⊢
              refine ⟨?_⟩
              go_simp
              exact hK _ _ (Below.refl _ _) rfl
            · intro vs hl u1 hb hd
              obtain ⟨v0, v1, v2, v3, v4, v5, v6, v7, v8, v9, v10, v11, v12, v13, v14, v15, v16, v17, v18, v19, v20, v21, v22, v23, v24, v25, v26, v27, v28, v29, v30, rfl⟩ := len31 hl
              clear hl
              obtain ⟨kh4, _⟩ := hd
              obtain rfl : v4 = .bool true := kh4
              intro K hK
              obtain ⟨l0, l1⟩ := (B5.below hb).two
              simp only [fs, fo, fz, Act.put, s1, s2, s3] at hK ⊢
              refine ⟨?_⟩
              go_simp
              exact hK _ _ (Below.refl _ _) rfl
            · intro vs hl u1 hb hd
              obtain ⟨v0, v1, v2, v3, v4, v5, v6, v7, v8, v9, v10, v11, v12, v13, v14, v15, v16, v17, v18, v19, v20, v21, v22, v23, v24, v25, v26, v27, v28, v29, v30, rfl⟩ := len31 hl
              clear hl
              obtain ⟨kh5, kh6, kh4, _, _⟩ := hd
              obtain rfl : v5 = .agg #[.int .i64 a2, .int .i64 a3] := kh5
              obtain rfl : v6 = .agg #[.int .i64 b2, .int .i64 b3] := kh6
              obtain rfl : v4 = .bool true := kh4
              intro K hK
              simp only [fs, fo, fz, Act.put, s1, s2, s3] at hK ⊢
              refine ⟨?_⟩
              go_simp
              refine (Hycr.out _).mono ?_
              rintro e w2 ⟨rfl, hb2⟩
              exact hK _ _ hb2 rfl
            · intro vs hl u1 hb hd
              obtain ⟨v0, v1, v2, v3, v4, v5, v6, v7, v8, v9, v10, v11, v12, v13, v14, v15, v16, v17, v18, v19, v20, v21, v22, v23, v24, v25, v26, v27, v28, v29, v30, rfl⟩ := len31 hl
              clear hl
              obtain ⟨kh7, _, kh4, _⟩ := hd
              obtain rfl : v7 = .int .i64 c := kh7
              obtain rfl : v4 = .bool true := kh4
              intro K hK
              simp only [fs, fo, fz, Act.put, s1, s2, s3] at hK ⊢
              refine ⟨?_⟩
              go_simp
              refine (Hysc.out _).mono ?_
              rintro e w2 ⟨rfl, hb2⟩
              exact hK _ _ hb2 rfl
            · intro vs hl u1 hb hd
              obtain ⟨v0, v1, v2, v3, v4, v5, v6, v7, v8, v9, v10, v11, v12, v13, v14, v15, v16, v17, v18, v19, v20, v21, v22, v23, v24, v25, v26, v27, v28, v29, v30, rfl⟩ := len31 hl
              clear hl
              obtain ⟨kh8, kh4, _⟩ := hd
              obtain rfl : v8 = .int .u64 q1 := kh8
              obtain rfl : v4 = .bool true := kh4
              intro K hK
              simp only [fs, fo, fz, Act.put, s1, s2, s3] at hK ⊢
              refine ⟨?_⟩
              go_simp
              exact hK _ _ (Below.refl _ _) rfl
            · intro vs hl u1 hb hd
              obtain ⟨v0, v1, v2, v3, v4, v5, v6, v7, v8, v9, v10, v11, v12, v13, v14, v15, v16, v17, v18, v19, v20, v21, v22, v23, v24, v25, v26, v27, v28, v29, v30, rfl⟩ := len31 hl
              clear hl
              obtain ⟨kh4, _⟩ := hd
              obtain rfl : v4 = .bool true := kh4
              intro K hK
              obtain ⟨l0, l1⟩ := (B4.below hb).two
              simp only [fs, fo, fz, Act.put, s1, s2, s3] at hK ⊢
              refine ⟨?_⟩
              go_simp
              exact hK _ _ (Below.refl _ _) rfl
            · intro vs hl u1 hb hd
              obtain ⟨v0, v1, v2, v3, v4, v5, v6, v7, v8, v9, v10, v11, v12, v13, v14, v15, v16, v17, v18, v19, v20, v21, v22, v23, v24, v25, v26, v27, v28, v29, v30, rfl⟩ := len31 hl
              clear hl
              obtain ⟨kh4, _⟩ := hd
              obtain rfl : v4 = .bool true := kh4
              intro K hK
              obtain ⟨l0, l1⟩ := (B5.below hb).two
              simp only [fs, fo, fz, Act.put, s1, s2, s3] at hK ⊢
              refine ⟨?_⟩
              go_simp
              exact hK _ _ (Below.refl _ _) rfl
            · intro vs hl u1 hb hd
              obtain ⟨v0, v1, v2, v3, v4, v5, v6, v7, v8, v9, v10, v11, v12, v13, v14, v15, v16, v17, v18, v19, v20, v21, v22, v23, v24, v25, v26, v27, v28, v29, v30, rfl⟩ := len31 hl
              clear hl
              obtain ⟨kh10, kh11, kh8, kh4, _⟩ := hd
              obtain rfl : v10 = .agg #[.int .i64 a2, .int .i64 a3] := kh10
              obtain rfl : v11 = .agg #[.int .i64 b2, .int .i64 b3] := kh11
              obtain rfl : v8 = .int .u64 q1 := kh8
              obtain rfl : v4 = .bool true := kh4
              intro K hK
              simp only [fs, fo, fz, Act.put, s1, s2, s3] at hK ⊢
              refine ⟨?_⟩
              go_simp
              refine (Hydt.out _).mono ?_
              rintro e w2 ⟨rfl, hb2⟩
              exact hK _ _ hb2 rfl
            · intro vs hl u1 hb hd
              obtain ⟨v0, v1, v2, v3, v4, v5, v6, v7, v8, v9, v10, v11, v12, v13, v14, v15, v16, v17, v18, v19, v20, v21, v22, v23, v24, v25, v26, v27, v28, v29, v30, rfl⟩ := len31 hl
              clear hl
              obtain ⟨kh12, _, kh4, _⟩ := hd
              obtain rfl : v12 = .int .i64 d := kh12
              obtain rfl : v4 = .bool true := kh4
              intro K hK
              simp only [fs, fo, fz, Act.put, s1, s2, s3] at hK ⊢
              refine ⟨?_⟩
              go_simp
              refine (Hysd.out _).mono ?_
              rintro e w2 ⟨rfl, hb2⟩
              exact hK _ _ hb2 rfl
            · intro vs hl u1 hb hd
              obtain ⟨v0, v1, v2, v3, v4, v5, v6, v7, v8, v9, v10, v11, v12, v13, v14, v15, v16, v17, v18, v19, v20, v21, v22, v23, v24, v25, v26, v27, v28, v29, v30, rfl⟩ := len31 hl
              clear hl
              obtain ⟨kh9, kh13, kh4, _⟩ := hd
              obtain rfl : v9 = .int .u64 (IntKind.u64.wrap (q1 * 100)) := kh9
              obtain rfl : v13 = .int .u64 q2 := kh13
              obtain rfl : v4 = .bool true := kh4
              intro K hK
              simp only [fs, fo, fz, Act.put, s1, s2, s3] at hK ⊢
              refine ⟨?_⟩
              go_simp
              exact hK _ _ (Below.refl _ _) rfl
            · intro vs hl u1 hb hd
              obtain ⟨v0, v1, v2, v3, v4, v5, v6, v7, v8, v9, v10, v11, v12, v13, v14, v15, v16, v17, v18, v19, v20, v21, v22, v23, v24, v25, v26, v27, v28, v29, v30, rfl⟩ := len31 hl
              clear hl
              obtain ⟨kh4, kh14, _⟩ := hd
              obtain rfl : v4 = .bool true := kh4
              obtain rfl : v14 = .bool false := kh14
              intro K hK
              simp only [fs, fo, fz, Act.put, s1, s2, s3] at hK ⊢
              refine ⟨?_⟩
              go_simp
              exact hK _ _ (Below.refl _ _) rfl
            · intro vs hl u1 hb hd
              obtain ⟨v0, v1, v2, v3, v4, v5, v6, v7, v8, v9, v10, v11, v12, v13, v14, v15, v16, v17, v18, v19, v20, v21, v22, v23, v24, v25, v26, v27, v28, v29, v30, rfl⟩ := len31 hl
              clear hl
              obtain ⟨kh15, kh13, _⟩ := hd
              obtain rfl : v15 = .bool false := kh15
              obtain rfl : v13 = .int .u64 q2 := kh13
              intro K hK
              simp only [fs, fo, fz, Act.put, s1, s2, s3] at hK ⊢
              refine ⟨?_⟩
              go_simp
              exact hK _ _ (Below.refl _ _) rfl
            · intro vs hl u1 hb hd
              obtain ⟨v0, v1, v2, v3, v4, v5, v6, v7, v8, v9, v10, v11, v12, v13, v14, v15, v16, v17, v18, v19, v20, v21, v22, v23, v24, v25, v26, v27, v28, v29, v30, rfl⟩ := len31 hl
              clear hl
              obtain ⟨kh16, _⟩ := hd
              obtain rfl : v16 = .bool false := kh16
              intro K hK
              simp only [fs, fo, fz, Act.put, s1, s2, s3] at hK ⊢
              refine ⟨?_⟩
              go_simp
              exact hK _ _ (Below.refl _ _) trivial
            · intro vs hl u1 hb hd
              obtain ⟨v0, v1, v2, v3, v4, v5, v6, v7, v8, v9, v10, v11, v12, v13, v14, v15, v16, v17, v18, v19, v20, v21, v22, v23, v24, v25, v26, v27, v28, v29, v30, rfl⟩ := len31 hl
              clear hl
              obtain ⟨kh16, _⟩ := hd
              obtain rfl : v16 = .bool false := kh16
              intro K hK
              simp only [fs, fo, fz, Act.put, s1, s2, s3] at hK ⊢
              refine ⟨?_⟩
              go_simp
              exact hK _ _ (Below.refl _ _) trivial
            · intro vs hl u1 hb hd
              obtain ⟨v0, v1, v2, v3, v4, v5, v6, v7, v8, v9, v10, v11, v12, v13, v14, v15, v16, v17, v18, v19, v20, v21, v22, v23, v24, v25, v26, v27, v28, v29, v30, rfl⟩ := len31 hl
              clear hl
              obtain ⟨_, _, kh16, _, _⟩ := hd
              obtain rfl : v16 = .bool false := kh16
              intro K hK
              simp only [fs, fo, fz, Act.put, s1, s2, s3] at hK ⊢
              refine ⟨?_⟩
              go_simp
              exact hK _ _ (Below.refl _ _) trivial
            · intro vs hl u1 hb hd
              obtain ⟨v0, v1, v2, v3, v4, v5, v6, v7, v8, v9, v10, v11, v12, v13, v14, v15, v16, v17, v18, v19, v20, v21, v22, v23, v24, v25, v26, v27, v28, v29, v30, rfl⟩ := len31 hl
              clear hl
              obtain ⟨kh16, _⟩ := hd
              obtain rfl : v16 = .bool false := kh16
              intro K hK
              simp only [fs, fo, fz, Act.put, s1, s2, s3] at hK ⊢
              refine ⟨?_⟩
              go_simp
              exact hK _ _ (Below.refl _ _) trivial
            · intro vs hl u1 hb hd
              obtain ⟨v0, v1, v2, v3, v4, v5, v6, v7, v8, v9, v10, v11, v12, v13, v14, v15, v16, v17, v18, v19, v20, v21, v22, v23, v24, v25, v26, v27, v28, v29, v30, rfl⟩ := len31 hl
              clear hl
              obtain ⟨_, _, _, kh16, _⟩ := hd
              obtain rfl : v16 = .bool false := kh16
              intro K hK
              simp only [fs, fo, fz, Act.put, s1, s2, s3] at hK ⊢
              refine ⟨?_⟩
              go_simp
              exact hK _ _ (Below.refl _ _) trivial
            · intro vs hl u1 hb hd
              obtain ⟨v0, v1, v2, v3, v4, v5, v6, v7, v8, v9, v10, v11, v12, v13, v14, v15, v16, v17, v18, v19, v20, v21, v22, v23, v24, v25, v26, v27, v28, v29, v30, rfl⟩ := len31 hl
              clear hl
              obtain ⟨kh16, _, _⟩ := hd
              obtain rfl : v16 = .bool false := kh16
              intro K hK
              simp only [fs, fo, fz, Act.put, s1, s2, s3] at hK ⊢
              refine ⟨?_⟩
              go_simp
              exact hK _ _ (Below.refl _ _) rfl
            · intro vs hl u1 hb hd
              obtain ⟨v0, v1, v2, v3, v4, v5, v6, v7, v8, v9, v10, v11, v12, v13, v14, v15, v16, v17, v18, v19, v20, v21, v22, v23, v24, v25, v26, v27, v28, v29, v30, rfl⟩ := len31 hl
              clear hl
              obtain ⟨kh22, _, _⟩ := hd
              obtain rfl : v22 = .bool false := kh22
              intro K hK
              simp only [fs, fo, fz, Act.put, s1, s2, s3] at hK ⊢
              refine ⟨?_⟩
              go_simp
              exact hK _ _ (Below.refl _ _) rfl
            · intro vs hl u1 hb hd
              obtain ⟨v0, v1, v2, v3, v4, v5, v6, v7, v8, v9, v10, v11, v12, v13, v14, v15, v16, v17, v18, v19, v20, v21, v22, v23, v24, v25, v26, v27, v28, v29, v30, rfl⟩ := len31 hl
              clear hl
              obtain ⟨kh23, _⟩ := hd
              obtain rfl : v23 = .bool false := kh23
              intro K hK
              simp only [fs, fo, fz, Act.put, s1, s2, s3] at hK ⊢
              refine ⟨?_⟩
              go_simp
              exact hK _ _ (Below.refl _ _) trivial
            · intro vs hl u1 hb hd
              obtain ⟨v0, v1, v2, v3, v4, v5, v6, v7, v8, v9, v10, v11, v12, v13, v14, v15, v16, v17, v18, v19, v20, v21, v22, v23, v24, v25, v26, v27, v28, v29, v30, rfl⟩ := len31 hl
              clear hl
              obtain ⟨kh23, _⟩ := hd
              obtain rfl : v23 = .bool false := kh23
              intro K hK
              simp only [fs, fo, fz, Act.put, s1, s2, s3] at hK ⊢
              refine ⟨?_⟩
              go_simp
              exact hK _ _ (Below.refl _ _) trivial
            · intro vs hl u1 hb hd
              obtain ⟨v0, v1, v2, v3, v4, v5, v6, v7, v8, v9, v10, v11, v12, v13, v14, v15, v16, v17, v18, v19, v20, v21, v22, v23, v24, v25, v26, v27, v28, v29, v30, rfl⟩ := len31 hl
              clear hl
              obtain ⟨_, _, kh23, _, _⟩ := hd
              obtain rfl : v23 = .bool false := kh23
              intro K hK
              simp only [fs, fo, fz, Act.put, s1, s2, s3] at hK ⊢
              refine ⟨?_⟩
              go_simp
              exact hK _ _ (Below.refl _ _) trivial
            · intro vs hl u1 hb hd
              obtain ⟨v0, v1, v2, v3, v4, v5, v6, v7, v8, v9, v10, v11, v12, v13, v14, v15, v16, v17, v18, v19, v20, v21, v22, v23, v24, v25, v26, v27, v28, v29, v30, rfl⟩ := len31 hl
              clear hl
              obtain ⟨kh23, _⟩ := hd
              obtain rfl : v23 = .bool false := kh23
              intro K hK
              simp only [fs, fo, fz, Act.put, s1, s2, s3] at hK ⊢
              refine ⟨?_⟩
              go_simp
              exact hK _ _ (Below.refl _ _) trivial
            · intro vs hl u1 hb hd
              obtain ⟨v0, v1, v2, v3, v4, v5, v6, v7, v8, v9, v10, v11, v12, v13, v14, v15, v16, v17, v18, v19, v20, v21, v22, v23, v24, v25, v26, v27, v28, v29, v30, rfl⟩ := len31 hl
              clear hl
              obtain ⟨_, _, _, kh23, _⟩ := hd
              obtain rfl : v23 = .bool false := kh23
              intro K hK
              simp only [fs, fo, fz, Act.put, s1, s2, s3] at hK ⊢
              refine ⟨?_⟩
              go_simp
              exact hK _ _ (Below.refl _ _) trivial
            · intro vs hl u1 hb hd
              obtain ⟨v0, v1, v2, v3, v4, v5, v6, v7, v8, v9, v10, v11, v12, v13, v14, v15, v16, v17, v18, v19, v20, v21, v22, v23, v24, v25, v26, v27, v28, v29, v30, rfl⟩ := len31 hl
              clear hl
              obtain ⟨kh23, _, _⟩ := hd
              obtain rfl : v23 = .bool false := kh23
              intro K hK
              simp only [fs, fo, fz, Act.put, s1, s2, s3] at hK ⊢
              refine ⟨?_⟩
              go_simp
              exact hK _ _ (Below.refl _ _) rfl
            · intro vs hl u1 hb hd
              obtain ⟨v0, v1, v2, v3, v4, v5, v6, v7, v8, v9, v10, v11, v12, v13, v14, v15, v16, v17, v18, v19, v20, v21, v22, v23, v24, v25, v26, v27, v28, v29, v30, rfl⟩ := len31 hl
              clear hl
              obtain ⟨kh29, _, kh0, kh1, kh2, kh3, kh4, kh5, kh6, kh7, kh8, kh9, kh10, kh11, kh12, kh13, kh14, kh15, kh16, _, _, _, _, _, kh22, kh23, _, _, _, _, _, _, _⟩ := hd
              obtain rfl : v29 = .bool false := kh29
              obtain rfl : v0 = .agg #[.int .i64 a2, .int .i64 a3] := kh0
              obtain rfl : v1 = .agg #[.int .i64 b2, .int .i64 b3] := kh1
              obtain rfl : v2 = .int .i64 d := kh2
              obtain rfl : v3 = .bool true := kh3
              obtain rfl : v4 = .bool true := kh4
              obtain rfl : v5 = .agg #[.int .i64 a2, .int .i64 a3] := kh5
              obtain rfl : v6 = .agg #[.int .i64 b2, .int .i64 b3] := kh6
              obtain rfl : v7 = .int .i64 c := kh7
              obtain rfl : v8 = .int .u64 q1 := kh8
              obtain rfl : v9 = .int .u64 (IntKind.u64.wrap (q1 * 100)) := kh9
              obtain rfl : v10 = .agg #[.int .i64 a2, .int .i64 a3] := kh10
              obtain rfl : v11 = .agg #[.int .i64 b2, .int .i64 b3] := kh11
              obtain rfl : v12 = .int .i64 d := kh12
              obtain rfl : v13 = .int .u64 q2 := kh13
              obtain rfl : v14 = .bool false := kh14
              obtain rfl : v15 = .bool false := kh15
              obtain rfl : v16 = .bool false := kh16
              obtain rfl : v22 = .bool false := kh22
              obtain rfl : v23 = .bool false := kh23
              intro K hK
              simp only [fs, fo, fz, Act.put, s1, s2, s3] at hK ⊢
              refine ⟨?_⟩
              go_simp
              exact hK _ _ (Below.refl _ _) rfl
            · intro vs hl w4 hb hd ha
              obtain ⟨v0, v1, v2, v3, v4, v5, v6, v7, v8, v9, v10, v11, v12, v13, v14, v15, v16, v17, v18, v19, v20, v21, v22, v23, v24, v25, v26, v27, v28, v29, v30, rfl⟩ := len31 hl
              clear hl
              obtain ⟨kh0, kh1, kh2, kh3, kh4, kh5, kh6, kh7, kh8, kh9, kh10, kh11, kh12, kh13, kh14, kh15, kh16, _, _, _, _, _, kh22, kh23, _, _, _, _, _, kh29, kh30, _⟩ := hd
              obtain rfl : v0 = .agg #[.int .i64 a2, .int .i64 a3] := kh0
              obtain rfl : v1 = .agg #[.int .i64 b2, .int .i64 b3] := kh1
              obtain rfl : v2 = .int .i64 d := kh2
              obtain rfl : v3 = .bool true := kh3
              obtain rfl : v4 = .bool true := kh4
              obtain rfl : v5 = .agg #[.int .i64 a2, .int .i64 a3] := kh5
              obtain rfl : v6 = .agg #[.int .i64 b2, .int .i64 b3] := kh6
              obtain rfl : v7 = .int .i64 c := kh7
              obtain rfl : v8 = .int .u64 q1 := kh8
              obtain rfl : v9 = .int .u64 (IntKind.u64.wrap (q1 * 100)) := kh9
              obtain rfl : v10 = .agg #[.int .i64 a2, .int .i64 a3] := kh10
              obtain rfl : v11 = .agg #[.int .i64 b2, .int .i64 b3] := kh11
              obtain rfl : v12 = .int .i64 d := kh12
              obtain rfl : v13 = .int .u64 q2 := kh13
              obtain rfl : v14 = .bool false := kh14
              obtain rfl : v15 = .bool false := kh15
              obtain rfl : v16 = .bool false := kh16
              obtain rfl : v22 = .bool false := kh22
              obtain rfl : v23 = .bool false := kh23
              obtain rfl : v29 = .bool false := kh29
              obtain rfl : v30 = .bool false := kh30
              clear ha
              simp only [fs, fo, fz, Act.put, s1, s2, s3]
              replace BA := BA.below hb
              replace BB := BB.below hb
              replace B4 := B4.below hb
              replace B5 := B5.below hb
              replace HB := Aside0.mk (HB.out.trans ((Below.trans (show Below w3.heap.size w3 w3.drew from pw_below_drewN (Below.refl _ _) 1) hb).mono HB.out.size))
              clear hb
              go_wp2
              go_ret
              exact ⟨by first | rfl | (simp only [hp0, hp1]; rfl), HB.out⟩
          case true =>
            cases h1
            case false =>
              replace BA := BA.drew
              replace BB := BB.drew
              replace B4 := B4.drew
              replace B5 := B5.drew
              refine region_sp (by kernel_rfl) [some 19, some 20, some 21, some 22, some 23, some 24, some 25, some 26, some 27, some 28, some 29, some 30, some 31, some 32, some 33, some 34, some 35, some 36, some 37, some 38, some 39, some 40, some 41, some 42, some 43, some 44, some 45, some 46, some 47, some 48, some 4] [undef, undef, undef, undef, undef, undef, undef, undef, undef, undef, undef, undef, undef, undef, undef, undef, undef, undef, undef, undef, undef, undef, undef, undef, undef, undef, undef, undef, undef, undef, .bool false] [Sp.val (fun v => v = .agg #[.int .i64 a2, .int .i64 a3]), Sp.val (fun v => v = .agg #[.int .i64 b2, .int .i64 b3]), Sp.val (fun v => v = .int .i64 d), Sp.val (fun v => v = .bool true), Sp.val (fun v => v = .bool true), Sp.val (fun v => v = .agg #[.int .i64 a2, .int .i64 a3]), Sp.val (fun v => v = .agg #[.int .i64 b2, .int .i64 b3]), Sp.val (fun v => v = .int .i64 c), Sp.val (fun v => v = .int .u64 q1), Sp.val (fun v => v = .int .u64 (IntKind.u64.wrap (q1 * 100))), Sp.val (fun v => v = .agg #[.int .i64 a2, .int .i64 a3]), Sp.val (fun v => v = .agg #[.int .i64 b2, .int .i64 b3]), Sp.val (fun v => v = .int .i64 d), Sp.val (fun v => v = .int .u64 q2), Sp.val (fun v => v = .bool true), Sp.val (fun v => v = .bool true), Sp.val (fun v => v = .bool true), Sp.val (fun v => v = .agg #[.int .i64 b0, .int .i64 b1, .int .i64 b2, .int .i64 b3, .int .i64 b4, .int .i64 b5]), Sp.val (fun v => v = .agg #[.int .i64 a0, .int .i64 a1, .int .i64 a2, .int .i64 a3, .int .i64 a4, .int .i64 a5]), Sp.val (fun v => v = .agg #[.int .i64 m1, .int .i64 m2]), Sp.val (fun v => v = .agg #[.int .i64 a2, .int .i64 a3]), Sp.val (fun v => v = .bool false), Sp.val (fun v => v = .bool false), Sp.val (fun v => v = .bool false), Sp.val (fun _ => True), Sp.val (fun _ => True), Sp.val (fun _ => True), Sp.val (fun _ => True), Sp.val (fun _ => True), Sp.val (fun v => v = .bool false), Sp.val (fun v => v = .bool false)] (by kernel_rfl) rfl (by kernel_rfl) ⟨?_, ?_, ?_, ?_, ?_, ?_, ?_, ?_, ?_, ?_, ?_, ?_, ?_, ?_, ?_, ?_, ?_, ?_, ?_, ?_, ?_, ?_, ?_, ?_, ?_, ?_, ?_, ?_, ?_, ?_, ?_, trivial⟩ ?_
              · intro vs hl u1 hb hd
                obtain ⟨v0, v1, v2, v3, v4, v5, v6, v7, v8, v9, v10, v11, v12, v13, v14, v15, v16, v17, v18, v19, v20, v21, v22, v23, v24, v25, v26, v27, v28, v29, v30, rfl⟩ := len31 hl
                clear hl
                intro K hK
                obtain ⟨l0, l1⟩ := (B4.below hb).two
                simp only [fs, fo, fz, Act.put, s1, s2, s3] at hK ⊢
                refine ⟨?_⟩
                go_simp
                exact hK _ _ (Below.refl _ _) rfl
              · intro vs hl u1 hb hd
                obtain ⟨v0, v1, v2, v3, v4, v5, v6, v7, v8, v9, v10, v11, v12, v13, v14, v15, v16, v17, v18, v19, v20, v21, v22, v23, v24, v25, v26, v27, v28, v29, v30, rfl⟩ := len31 hl
                clear hl
                intro K hK
                obtain ⟨l0, l1⟩ := (B5.below hb).two
                simp only [fs, fo, fz, Act.put, s1, s2, s3] at hK ⊢
                refine ⟨?_⟩
                go_simp
                exact hK _ _ (Below.refl _ _) rfl
              · intro vs hl u1 hb hd
                obtain ⟨v0, v1, v2, v3, v4, v5, v6, v7, v8, v9, v10, v11, v12, v13, v14, v15, v16, v17, v18, v19, v20, v21, v22, v23, v24, v25, v26, v27, v28, v29, v30, rfl⟩ := len31 hl
                clear hl
                obtain ⟨kh0, kh1, _⟩ := hd
                obtain rfl : v0 = .agg #[.int .i64 a2, .int .i64 a3] := kh0
                obtain rfl : v1 = .agg #[.int .i64 b2, .int .i64 b3] := kh1
                intro K hK
                simp only [fs, fo, fz, Act.put, s1, s2, s3] at hK ⊢
                refine ⟨?_⟩
                go_simp
                refine (Hydt.out _).mono ?_
                rintro e w2 ⟨rfl, hb2⟩
                exact hK _ _ hb2 rfl
              · intro vs hl u1 hb hd
                obtain ⟨v0, v1, v2, v3, v4, v5, v6, v7, v8, v9, v10, v11, v12, v13, v14, v15, v16, v17, v18, v19, v20, v21, v22, v23, v24, v25, v26, v27, v28, v29, v30, rfl⟩ := len31 hl
                clear hl
                obtain ⟨kh2, _⟩ := hd
                obtain rfl : v2 = .int .i64 d := kh2
                intro K hK
                simp only [fs, fo, fz, Act.put, s1, s2, s3] at hK ⊢
                refine ⟨?_⟩
                go_simp
                exact hK _ _ (Below.refl _ _) rfl
              · intro vs hl u1 hb hd
                obtain ⟨v0, v1, v2, v3, v4, v5, v6, v7, v8, v9, v10, v11, v12, v13, v14, v15, v16, v17, v18, v19, v20, v21, v22, v23, v24, v25, v26, v27, v28, v29, v30, rfl⟩ := len31 hl
                clear hl
                obtain ⟨kh3, kh2, _⟩ := hd
                obtain rfl : v3 = .bool true := kh3
                obtain rfl : v2 = .int .i64 d := kh2
                intro K hK
                simp only [fs, fo, fz, Act.put, s1, s2, s3] at hK ⊢
                refine ⟨?_⟩
                go_simp
                exact hK _ _ (Below.refl _ _) rfl
              · intro vs hl u1 hb hd
                obtain ⟨v0, v1, v2, v3, v4, v5, v6, v7, v8, v9, v10, v11, v12, v13, v14, v15, v16, v17, v18, v19, v20, v21, v22, v23, v24, v25, v26, v27, v28, v29, v30, rfl⟩ := len31 hl
                clear hl
                obtain ⟨kh4, _⟩ := hd
                obtain rfl : v4 = .bool true := kh4
                intro K hK
                obtain ⟨l0, l1⟩ := (B4.below hb).two
                simp only [fs, fo, fz, Act.put, s1, s2, s3] at hK ⊢
                refine ⟨?_⟩
                go_simp
                exact hK _ _ (Below.refl _ _) rfl
              · intro vs hl u1 hb hd
                obtain ⟨v0, v1, v2, v3, v4, v5, v6, v7, v8, v9, v10, v11, v12, v13, v14, v15, v16, v17, v18, v19, v20, v21, v22, v23, v24, v25, v26, v27, v28, v29, v30, rfl⟩ := len31 hl
                clear hl
                obtain ⟨kh4, _⟩ := hd
                obtain rfl : v4 = .bool true := kh4
                intro K hK
                obtain ⟨l0, l1⟩ := (B5.below hb).two
                simp only [fs, fo, fz, Act.put, s1, s2, s3] at hK ⊢
                refine ⟨?_⟩
                go_simp
                exact hK _ _ (Below.refl _ _) rfl
              · intro vs hl u1 hb hd
                obtain ⟨v0, v1, v2, v3, v4, v5, v6, v7, v8, v9, v10, v11, v12, v13, v14, v15, v16, v17, v18, v19, v20, v21, v22, v23, v24, v25, v26, v27, v28, v29, v30, rfl⟩ := len31 hl
                clear hl
                obtain ⟨kh5, kh6, kh4, _, _⟩ := hd
                obtain rfl : v5 = .agg #[.int .i64 a2, .int .i64 a3] := kh5
                obtain rfl : v6 = .agg #[.int .i64 b2, .int .i64 b3] := kh6
                obtain rfl : v4 = .bool true := kh4
                intro K hK
                simp only [fs, fo, fz, Act.put, s1, s2, s3] at hK ⊢
                refine ⟨?_⟩
                go_simp
                refine (Hycr.out _).mono ?_
                rintro e w2 ⟨rfl, hb2⟩
                exact hK _ _ hb2 rfl
              · intro vs hl u1 hb hd
                obtain ⟨v0, v1, v2, v3, v4, v5, v6, v7, v8, v9, v10, v11, v12, v13, v14, v15, v16, v17, v18, v19, v20, v21, v22, v23, v24, v25, v26, v27, v28, v29, v30, rfl⟩ := len31 hl
                clear hl
                obtain ⟨kh7, _, kh4, _⟩ := hd
                obtain rfl : v7 = .int .i64 c := kh7
                obtain rfl : v4 = .bool true := kh4
                intro K hK
                simp only [fs, fo, fz, Act.put, s1, s2, s3] at hK ⊢
                refine ⟨?_⟩
                go_simp
                refine (Hysc.out _).mono ?_
                rintro e w2 ⟨rfl, hb2⟩
                exact hK _ _ hb2 rfl
              · intro vs hl u1 hb hd
                obtain ⟨v0, v1, v2, v3, v4, v5, v6, v7, v8, v9, v10, v11, v12, v13, v14, v15, v16, v17, v18, v19, v20, v21, v22, v23, v24, v25, v26, v27, v28, v29, v30, rfl⟩ := len31 hl
                clear hl
                obtain ⟨kh8, kh4, _⟩ := hd
                obtain rfl : v8 = .int .u64 q1 := kh8
                obtain rfl : v4 = .bool true := kh4
                intro K hK
                simp only [fs, fo, fz, Act.put, s1, s2, s3] at hK ⊢
                refine ⟨?_⟩
                go_simp
                exact hK _ _ (Below.refl _ _) rfl
              · intro vs hl u1 hb hd
                obtain ⟨v0, v1, v2, v3, v4, v5, v6, v7, v8, v9, v10, v11, v12, v13, v14, v15, v16, v17, v18, v19, v20, v21, v22, v23, v24, v25, v26, v27, v28, v29, v30, rfl⟩ := len31 hl
                clear hl
                obtain ⟨kh4, _⟩ := hd
                obtain rfl : v4 = .bool true := kh4
                intro K hK
                obtain ⟨l0, l1⟩ := (B4.below hb).two
                simp only [fs, fo, fz, Act.put, s1, s2, s3] at hK ⊢
                refine ⟨?_⟩
                go_simp
                exact hK _ _ (Below.refl _ _) rfl
              · intro vs hl u1 hb hd
                obtain ⟨v0, v1, v2, v3, v4, v5, v6, v7, v8, v9, v10, v11, v12, v13, v14, v15, v16, v17, v18, v19, v20, v21, v22, v23, v24, v25, v26, v27, v28, v29, v30, rfl⟩ := len31 hl
                clear hl
                obtain ⟨kh4, _⟩ := hd
                obtain rfl : v4 = .bool true := kh4
                intro K hK
                obtain ⟨l0, l1⟩ := (B5.below hb).two
                simp only [fs, fo, fz, Act.put, s1, s2, s3] at hK ⊢
                refine ⟨?_⟩
                go_simp
                exact hK _ _ (Below.refl _ _) rfl
              · intro vs hl u1 hb hd
                obtain ⟨v0, v1, v2, v3, v4, v5, v6, v7, v8, v9, v10, v11, v12, v13, v14, v15, v16, v17, v18, v19, v20, v21, v22, v23, v24, v25, v26, v27, v28, v29, v30, rfl⟩ := len31 hl
                clear hl
                obtain ⟨kh10, kh11, kh8, kh4, _⟩ := hd
                obtain rfl : v10 = .agg #[.int .i64 a2, .int .i64 a3] := kh10
                obtain rfl : v11 = .agg #[.int .i64 b2, .int .i64 b3] := kh11
                obtain rfl : v8 = .int .u64 q1 := kh8
                obtain rfl : v4 = .bool true := kh4
                intro K hK
                simp only [fs, fo, fz, Act.put, s1, s2, s3] at hK ⊢
                refine ⟨?_⟩
                go_simp
                refine (Hydt.out _).mono ?_
                rintro e w2 ⟨rfl, hb2⟩
                exact hK _ _ hb2 rfl
              · intro vs hl u1 hb hd
                obtain ⟨v0, v1, v2, v3, v4, v5, v6, v7, v8, v9, v10, v11, v12, v13, v14, v15, v16, v17, v18, v19, v20, v21, v22, v23, v24, v25, v26, v27, v28, v29, v30, rfl⟩ := len31 hl
                clear hl
                obtain ⟨kh12, _, kh4, _⟩ := hd
                obtain rfl : v12 = .int .i64 d := kh12
                obtain rfl : v4 = .bool true := kh4
                intro K hK
                simp only [fs, fo, fz, Act.put, s1, s2, s3] at hK ⊢
                refine ⟨?_⟩
                go_simp
                refine (Hysd.out _).mono ?_
                rintro e w2 ⟨rfl, hb2⟩
                exact hK _ _ hb2 rfl
              · intro vs hl u1 hb hd
                obtain ⟨v0, v1, v2, v3, v4, v5, v6, v7, v8, v9, v10, v11, v12, v13, v14, v15, v16, v17, v18, v19, v20, v21, v22, v23, v24, v25, v26, v27, v28, v29, v30, rfl⟩ := len31 hl
                clear hl
                obtain ⟨kh9, kh13, kh4, _⟩ := hd
                obtain rfl : v9 = .int .u64 (IntKind.u64.wrap (q1 * 100)) := kh9
                obtain rfl : v13 = .int .u64 q2 := kh13
                obtain rfl : v4 = .bool true := kh4
                intro K hK
                simp only [fs, fo, fz, Act.put, s1, s2, s3] at hK ⊢
                refine ⟨?_⟩
                go_simp
                exact hK _ _ (Below.refl _ _) rfl
              · intro vs hl u1 hb hd
                obtain ⟨v0, v1, v2, v3, v4, v5, v6, v7, v8, v9, v10, v11, v12, v13, v14, v15, v16, v17, v18, v19, v20, v21, v22, v23, v24, v25, v26, v27, v28, v29, v30, rfl⟩ := len31 hl
                clear hl
                obtain ⟨kh4, kh14, _⟩ := hd
                obtain rfl : v4 = .bool true := kh4
                obtain rfl : v14 = .bool true := kh14
                intro K hK
                simp only [fs, fo, fz, Act.put, s1, s2, s3] at hK ⊢
                refine ⟨?_⟩
                go_simp
                exact hK _ _ (Below.refl _ _) rfl
              · intro vs hl u1 hb hd
                obtain ⟨v0, v1, v2, v3, v4, v5, v6, v7, v8, v9, v10, v11, v12, v13, v14, v15, v16, v17, v18, v19, v20, v21, v22, v23, v24, v25, v26, v27, v28, v29, v30, rfl⟩ := len31 hl
                clear hl
                obtain ⟨kh15, kh13, _⟩ := hd
                obtain rfl : v15 = .bool true := kh15
                obtain rfl : v13 = .int .u64 q2 := kh13
                intro K hK
                simp only [fs, fo, fz, Act.put, s1, s2, s3] at hK ⊢
                refine ⟨?_⟩
                go_simp
                exact hK _ _ (Below.refl _ _) rfl
              · intro vs hl u1 hb hd
                obtain ⟨v0, v1, v2, v3, v4, v5, v6, v7, v8, v9, v10, v11, v12, v13, v14, v15, v16, v17, v18, v19, v20, v21, v22, v23, v24, v25, v26, v27, v28, v29, v30, rfl⟩ := len31 hl
                clear hl
                obtain ⟨kh16, _⟩ := hd
                obtain rfl : v16 = .bool true := kh16
                intro K hK
                obtain ⟨l0, l1, l2, l3, l4, l5⟩ := (BB.below hb).six
                simp only [fs, fo, fz, Act.put, s1, s2, s3] at hK ⊢
                refine ⟨?_⟩
                go_simp
                exact hK _ _ (Below.refl _ _) rfl
              · intro vs hl u1 hb hd
                obtain ⟨v0, v1, v2, v3, v4, v5, v6, v7, v8, v9, v10, v11, v12, v13, v14, v15, v16, v17, v18, v19, v20, v21, v22, v23, v24, v25, v26, v27, v28, v29, v30, rfl⟩ := len31 hl
                clear hl
                obtain ⟨kh16, _⟩ := hd
                obtain rfl : v16 = .bool true := kh16
                intro K hK
                obtain ⟨l0, l1, l2, l3, l4, l5⟩ := (BA.below hb).six
                simp only [fs, fo, fz, Act.put, s1, s2, s3] at hK ⊢
                refine ⟨?_⟩
                go_simp
                exact hK _ _ (Below.refl _ _) rfl
              · intro vs hl u1 hb hd
                obtain ⟨v0, v1, v2, v3, v4, v5, v6, v7, v8, v9, v10, v11, v12, v13, v14, v15, v16, v17, v18, v19, v20, v21, v22, v23, v24, v25, v26, v27, v28, v29, v30, rfl⟩ := len31 hl
                clear hl
                obtain ⟨kh17, kh18, kh16, _, _⟩ := hd
                obtain rfl : v17 = .agg #[.int .i64 b0, .int .i64 b1, .int .i64 b2, .int .i64 b3, .int .i64 b4, .int .i64 b5] := kh17
                obtain rfl : v18 = .agg #[.int .i64 a0, .int .i64 a1, .int .i64 a2, .int .i64 a3, .int .i64 a4, .int .i64 a5] := kh18
                obtain rfl : v16 = .bool true := kh16
                intro K hK
                simp only [fs, fo, fz, Act.put, s1, s2, s3] at hK ⊢
                refine ⟨?_⟩
                go_simp
                refine (Hyb1.out _).mono ?_
                rintro e w2 ⟨rfl, hb2⟩
                exact hK _ _ hb2 rfl
              · intro vs hl u1 hb hd
                obtain ⟨v0, v1, v2, v3, v4, v5, v6, v7, v8, v9, v10, v11, v12, v13, v14, v15, v16, v17, v18, v19, v20, v21, v22, v23, v24, v25, v26, v27, v28, v29, v30, rfl⟩ := len31 hl
                clear hl
                obtain ⟨kh16, _⟩ := hd
                obtain rfl : v16 = .bool true := kh16
                intro K hK
                obtain ⟨l0, l1⟩ := (B4.below hb).two
                simp only [fs, fo, fz, Act.put, s1, s2, s3] at hK ⊢
                refine ⟨?_⟩
                go_simp
                exact hK _ _ (Below.refl _ _) rfl
              · intro vs hl u1 hb hd
                obtain ⟨v0, v1, v2, v3, v4, v5, v6, v7, v8, v9, v10, v11, v12, v13, v14, v15, v16, v17, v18, v19, v20, v21, v22, v23, v24, v25, v26, v27, v28, v29, v30, rfl⟩ := len31 hl
                clear hl
                obtain ⟨kh19, kh20, _, kh16, _⟩ := hd
                obtain rfl : v19 = .agg #[.int .i64 m1, .int .i64 m2] := kh19
                obtain rfl : v20 = .agg #[.int .i64 a2, .int .i64 a3] := kh20
                obtain rfl : v16 = .bool true := kh16
                intro K hK
                simp only [fs, fo, fz, Act.put, s1, s2, s3] at hK ⊢
                refine ⟨?_⟩
                go_simp
                refine (Hyh1.out _).mono ?_
                rintro e w2 ⟨rfl, hb2⟩
                exact hK _ _ hb2 rfl
              · intro vs hl u1 hb hd
                obtain ⟨v0, v1, v2, v3, v4, v5, v6, v7, v8, v9, v10, v11, v12, v13, v14, v15, v16, v17, v18, v19, v20, v21, v22, v23, v24, v25, v26, v27, v28, v29, v30, rfl⟩ := len31 hl
                clear hl
                obtain ⟨kh16, kh21, _⟩ := hd
                obtain rfl : v16 = .bool true := kh16
                obtain rfl : v21 = .bool false := kh21
                intro K hK
                simp only [fs, fo, fz, Act.put, s1, s2, s3] at hK ⊢
                refine ⟨?_⟩
                go_simp
                exact hK _ _ (Below.refl _ _) rfl
              · intro vs hl u1 hb hd
                obtain ⟨v0, v1, v2, v3, v4, v5, v6, v7, v8, v9, v10, v11, v12, v13, v14, v15, v16, v17, v18, v19, v20, v21, v22, v23, v24, v25, v26, v27, v28, v29, v30, rfl⟩ := len31 hl
                clear hl
                obtain ⟨kh22, kh21, _⟩ := hd
                obtain rfl : v22 = .bool false := kh22
                obtain rfl : v21 = .bool false := kh21
                intro K hK
                simp only [fs, fo, fz, Act.put, s1, s2, s3] at hK ⊢
                refine ⟨?_⟩
                go_simp
                exact hK _ _ (Below.refl _ _) rfl
              · intro vs hl u1 hb hd
                obtain ⟨v0, v1, v2, v3, v4, v5, v6, v7, v8, v9, v10, v11, v12, v13, v14, v15, v16, v17, v18, v19, v20, v21, v22, v23, v24, v25, v26, v27, v28, v29, v30, rfl⟩ := len31 hl
                clear hl
                obtain ⟨kh23, _⟩ := hd
                obtain rfl : v23 = .bool false := kh23
                intro K hK
                simp only [fs, fo, fz, Act.put, s1, s2, s3] at hK ⊢
                refine ⟨?_⟩
                go_simp
                exact hK _ _ (Below.refl _ _) trivial
              · intro vs hl u1 hb hd
                obtain ⟨v0, v1, v2, v3, v4, v5, v6, v7, v8, v9, v10, v11, v12, v13, v14, v15, v16, v17, v18, v19, v20, v21, v22, v23, v24, v25, v26, v27, v28, v29, v30, rfl⟩ := len31 hl
                clear hl
                obtain ⟨kh23, _⟩ := hd
                obtain rfl : v23 = .bool false := kh23
                intro K hK
                simp only [fs, fo, fz, Act.put, s1, s2, s3] at hK ⊢
                refine ⟨?_⟩
                go_simp
                exact hK _ _ (Below.refl _ _) trivial
              · intro vs hl u1 hb hd
                obtain ⟨v0, v1, v2, v3, v4, v5, v6, v7, v8, v9, v10, v11, v12, v13, v14, v15, v16, v17, v18, v19, v20, v21, v22, v23, v24, v25, v26, v27, v28, v29, v30, rfl⟩ := len31 hl
                clear hl
                obtain ⟨_, _, kh23, _, _⟩ := hd
                obtain rfl : v23 = .bool false := kh23
                intro K hK
                simp only [fs, fo, fz, Act.put, s1, s2, s3] at hK ⊢
                refine ⟨?_⟩
                go_simp
                exact hK _ _ (Below.refl _ _) trivial
              · intro vs hl u1 hb hd
                obtain ⟨v0, v1, v2, v3, v4, v5, v6, v7, v8, v9, v10, v11, v12, v13, v14, v15, v16, v17, v18, v19, v20, v21, v22, v23, v24, v25, v26, v27, v28, v29, v30, rfl⟩ := len31 hl
                clear hl
                obtain ⟨kh23, _⟩ := hd
                obtain rfl : v23 = .bool false := kh23
                intro K hK
                simp only [fs, fo, fz, Act.put, s1, s2, s3] at hK ⊢
                refine ⟨?_⟩
                go_simp
                exact hK _ _ (Below.refl _ _) trivial
              · intro vs hl u1 hb hd
                obtain ⟨v0, v1, v2, v3, v4, v5, v6, v7, v8, v9, v10, v11, v12, v13, v14, v15, v16, v17, v18, v19, v20, v21, v22, v23, v24, v25, v26, v27, v28, v29, v30, rfl⟩ := len31 hl
                clear hl
                obtain ⟨_, _, _, kh23, _⟩ := hd
                obtain rfl : v23 = .bool false := kh23
                intro K hK
                simp only [fs, fo, fz, Act.put, s1, s2, s3] at hK ⊢
                refine ⟨?_⟩
                go_simp
                exact hK _ _ (Below.refl _ _) trivial
              · intro vs hl u1 hb hd
                obtain ⟨v0, v1, v2, v3, v4, v5, v6, v7, v8, v9, v10, v11, v12, v13, v14, v15, v16, v17, v18, v19, v20, v21, v22, v23, v24, v25, v26, v27, v28, v29, v30, rfl⟩ := len31 hl
                clear hl
                obtain ⟨kh23, _, _⟩ := hd
                obtain rfl : v23 = .bool false := kh23
                intro K hK
                simp only [fs, fo, fz, Act.put, s1, s2, s3] at hK ⊢
                refine ⟨?_⟩
                go_simp
                exact hK _ _ (Below.refl _ _) rfl
              · intro vs hl u1 hb hd
                obtain ⟨v0, v1, v2, v3, v4, v5, v6, v7, v8, v9, v10, v11, v12, v13, v14, v15, v16, v17, v18, v19, v20, v21, v22, v23, v24, v25, v26, v27, v28, v29, v30, rfl⟩ := len31 hl
                clear hl
                obtain ⟨kh29, _, kh0, kh1, kh2, kh3, kh4, kh5, kh6, kh7, kh8, kh9, kh10, kh11, kh12, kh13, kh14, kh15, kh16, kh17, kh18, kh19, kh20, kh21, kh22, kh23, _, _, _, _, _, _, _⟩ := hd
                obtain rfl : v29 = .bool false := kh29
                obtain rfl : v0 = .agg #[.int .i64 a2, .int .i64 a3] := kh0
                obtain rfl : v1 = .agg #[.int .i64 b2, .int .i64 b3] := kh1
                obtain rfl : v2 = .int .i64 d := kh2
                obtain rfl : v3 = .bool true := kh3
                obtain rfl : v4 = .bool true := kh4
                obtain rfl : v5 = .agg #[.int .i64 a2, .int .i64 a3] := kh5
                obtain rfl : v6 = .agg #[.int .i64 b2, .int .i64 b3] := kh6
                obtain rfl : v7 = .int .i64 c := kh7
                obtain rfl : v8 = .int .u64 q1 := kh8
                obtain rfl : v9 = .int .u64 (IntKind.u64.wrap (q1 * 100)) := kh9
                obtain rfl : v10 = .agg #[.int .i64 a2, .int .i64 a3] := kh10
                obtain rfl : v11 = .agg #[.int .i64 b2, .int .i64 b3] := kh11
                obtain rfl : v12 = .int .i64 d := kh12
                obtain rfl : v13 = .int .u64 q2 := kh13
                obtain rfl : v14 = .bool true := kh14
                obtain rfl : v15 = .bool true := kh15
                obtain rfl : v16 = .bool true := kh16
                obtain rfl : v17 = .agg #[.int .i64 b0, .int .i64 b1, .int .i64 b2, .int .i64 b3, .int .i64 b4, .int .i64 b5] := kh17
                obtain rfl : v18 = .agg #[.int .i64 a0, .int .i64 a1, .int .i64 a2, .int .i64 a3, .int .i64 a4, .int .i64 a5] := kh18
                obtain rfl : v19 = .agg #[.int .i64 m1, .int .i64 m2] := kh19
                obtain rfl : v20 = .agg #[.int .i64 a2, .int .i64 a3] := kh20
                obtain rfl : v21 = .bool false := kh21
                obtain rfl : v22 = .bool false := kh22
                obtain rfl : v23 = .bool false := kh23
                intro K hK
                simp only [fs, fo, fz, Act.put, s1, s2, s3] at hK ⊢
                refine ⟨?_⟩
                go_simp
                exact hK _ _ (Below.refl _ _) rfl
              · intro vs hl w4 hb hd ha
                obtain ⟨v0, v1, v2, v3, v4, v5, v6, v7, v8, v9, v10, v11, v12, v13, v14, v15, v16, v17, v18, v19, v20, v21, v22, v23, v24, v25, v26, v27, v28, v29, v30, rfl⟩ := len31 hl
                clear hl
                obtain ⟨kh0, kh1, kh2, kh3, kh4, kh5, kh6, kh7, kh8, kh9, kh10, kh11, kh12, kh13, kh14, kh15, kh16, kh17, kh18, kh19, kh20, kh21, kh22, kh23, _, _, _, _, _, kh29, kh30, _⟩ := hd
                obtain rfl : v0 = .agg #[.int .i64 a2, .int .i64 a3] := kh0
                obtain rfl : v1 = .agg #[.int .i64 b2, .int .i64 b3] := kh1
                obtain rfl : v2 = .int .i64 d := kh2
                obtain rfl : v3 = .bool true := kh3
                obtain rfl : v4 = .bool true := kh4
                obtain rfl : v5 = .agg #[.int .i64 a2, .int .i64 a3] := kh5
                obtain rfl : v6 = .agg #[.int .i64 b2, .int .i64 b3] := kh6
                obtain rfl : v7 = .int .i64 c := kh7
                obtain rfl : v8 = .int .u64 q1 := kh8
                obtain rfl : v9 = .int .u64 (IntKind.u64.wrap (q1 * 100)) := kh9
                obtain rfl : v10 = .agg #[.int .i64 a2, .int .i64 a3] := kh10
                obtain rfl : v11 = .agg #[.int .i64 b2, .int .i64 b3] := kh11
                obtain rfl : v12 = .int .i64 d := kh12
                obtain rfl : v13 = .int .u64 q2 := kh13
                obtain rfl : v14 = .bool true := kh14
                obtain rfl : v15 = .bool true := kh15
                obtain rfl : v16 = .bool true := kh16
                obtain rfl : v17 = .agg #[.int .i64 b0, .int .i64 b1, .int .i64 b2, .int .i64 b3, .int .i64 b4, .int .i64 b5] := kh17
                obtain rfl : v18 = .agg #[.int .i64 a0, .int .i64 a1, .int .i64 a2, .int .i64 a3, .int .i64 a4, .int .i64 a5] := kh18
                obtain rfl : v19 = .agg #[.int .i64 m1, .int .i64 m2] := kh19
                obtain rfl : v20 = .agg #[.int .i64 a2, .int .i64 a3] := kh20
                obtain rfl : v21 = .bool false := kh21
                obtain rfl : v22 = .bool false := kh22
                obtain rfl : v23 = .bool false := kh23
                obtain rfl : v29 = .bool false := kh29
                obtain rfl : v30 = .bool false := kh30
                clear ha
                simp only [fs, fo, fz, Act.put, s1, s2, s3]
                replace BA := BA.below hb
                replace BB := BB.below hb
                replace B4 := B4.below hb
                replace B5 := B5.below hb
                replace HB := Aside0.mk (HB.out.trans ((Below.trans (show Below w3.heap.size w3 w3.drew from pw_below_drewN (Below.refl _ _) 1) hb).mono HB.out.size))
                clear hb
                go_wp2
                go_ret
                exact ⟨by first | rfl | (simp only [hp0, hp1]; rfl), HB.out⟩
            case true =>
              replace BA := BA.drew
              replace BB := BB.drew
              replace B4 := B4.drew
              replace B5 := B5.drew
              refine region_sp (by kernel_rfl) [some 19, some 20, some 21, some 22, some 23, some 24, some 25, some 26, some 27, some 28, some 29, some 30, some 31, some 32, some 33, some 34, some 35, some 36, some 37, some 38, some 39, some 40, some 41, some 42, some 43, some 44, some 45, some 46, some 47, some 48, some 4] [undef, undef, undef, undef, undef, undef, undef, undef, undef, undef, undef, undef, undef, undef, undef, undef, undef, undef, undef, undef, undef, undef, undef, undef, undef, undef, undef, undef, undef, undef, .bool false] [Sp.val (fun v => v = .agg #[.int .i64 a2, .int .i64 a3]), Sp.val (fun v => v = .agg #[.int .i64 b2, .int .i64 b3]), Sp.val (fun v => v = .int .i64 d), Sp.val (fun v => v = .bool true), Sp.val (fun v => v = .bool true), Sp.val (fun v => v = .agg #[.int .i64 a2, .int .i64 a3]), Sp.val (fun v => v = .agg #[.int .i64 b2, .int .i64 b3]), Sp.val (fun v => v = .int .i64 c), Sp.val (fun v => v = .int .u64 q1), Sp.val (fun v => v = .int .u64 (IntKind.u64.wrap (q1 * 100))), Sp.val (fun v => v = .agg #[.int .i64 a2, .int .i64 a3]), Sp.val (fun v => v = .agg #[.int .i64 b2, .int .i64 b3]), Sp.val (fun v => v = .int .i64 d), Sp.val (fun v => v = .int .u64 q2), Sp.val (fun v => v = .bool true), Sp.val (fun v => v = .bool true), Sp.val (fun v => v = .bool true), Sp.val (fun v => v = .agg #[.int .i64 b0, .int .i64 b1, .int .i64 b2, .int .i64 b3, .int .i64 b4, .int .i64 b5]), Sp.val (fun v => v = .agg #[.int .i64 a0, .int .i64 a1, .int .i64 a2, .int .i64 a3, .int .i64 a4, .int .i64 a5]), Sp.val (fun v => v = .agg #[.int .i64 m1, .int .i64 m2]), Sp.val (fun v => v = .agg #[.int .i64 a2, .int .i64 a3]), Sp.val (fun v => v = .bool true), Sp.val (fun v => v = .bool true), Sp.val (fun v => v = .bool true), Sp.val (fun v => v = .agg #[.int .i64 a0, .int .i64 a1, .int .i64 a2, .int .i64 a3, .int .i64 a4, .int .i64 a5]), Sp.val (fun v => v = .agg #[.int .i64 b0, .int .i64 b1, .int .i64 b2, .int .i64 b3, .int .i64 b4, .int .i64 b5]), Sp.val (fun v => v = .agg #[.int .i64 n1, .int .i64 n2]), Sp.val (fun v => v = .agg #[.int .i64 b2, .int .i64 b3]), Sp.val (fun v => v = .bool h2), Sp.val (fun v => v = .bool h2), Sp.val (fun v => v = .bool h2)] (by kernel_rfl) rfl (by kernel_rfl) ⟨?_, ?_, ?_, ?_, ?_, ?_, ?_, ?_, ?_, ?_, ?_, ?_, ?_, ?_, ?_, ?_, ?_, ?_, ?_, ?_, ?_, ?_, ?_, ?_, ?_, ?_, ?_, ?_, ?_, ?_, ?_, trivial⟩ ?_
              · intro vs hl u1 hb hd
                obtain ⟨v0, v1, v2, v3, v4, v5, v6, v7, v8, v9, v10, v11, v12, v13, v14, v15, v16, v17, v18, v19, v20, v21, v22, v23, v24, v25, v26, v27, v28, v29, v30, rfl⟩ := len31 hl
                clear hl
                intro K hK
                obtain ⟨l0, l1⟩ := (B4.below hb).two
                simp only [fs, fo, fz, Act.put, s1, s2, s3] at hK ⊢
                refine ⟨?_⟩
                go_simp
                exact hK _ _ (Below.refl _ _) rfl
              · intro vs hl u1 hb hd
                obtain ⟨v0, v1, v2, v3, v4, v5, v6, v7, v8, v9, v10, v11, v12, v13, v14, v15, v16, v17, v18, v19, v20, v21, v22, v23, v24, v25, v26, v27, v28, v29, v30, rfl⟩ := len31 hl
                clear hl
                intro K hK
                obtain ⟨l0, l1⟩ := (B5.below hb).two
                simp only [fs, fo, fz, Act.put, s1, s2, s3] at hK ⊢
                refine ⟨?_⟩
                go_simp
                exact hK _ _ (Below.refl _ _) rfl
              · intro vs hl u1 hb hd
                obtain ⟨v0, v1, v2, v3, v4, v5, v6, v7, v8, v9, v10, v11, v12, v13, v14, v15, v16, v17, v18, v19, v20, v21, v22, v23, v24, v25, v26, v27, v28, v29, v30, rfl⟩ := len31 hl
                clear hl
                obtain ⟨kh0, kh1, _⟩ := hd
                obtain rfl : v0 = .agg #[.int .i64 a2, .int .i64 a3] := kh0
                obtain rfl : v1 = .agg #[.int .i64 b2, .int .i64 b3] := kh1
                intro K hK
                simp only [fs, fo, fz, Act.put, s1, s2, s3] at hK ⊢
                refine ⟨?_⟩
                go_simp
                refine (Hydt.out _).mono ?_
                rintro e w2 ⟨rfl, hb2⟩
                exact hK _ _ hb2 rfl
              · intro vs hl u1 hb hd
                obtain ⟨v0, v1, v2, v3, v4, v5, v6, v7, v8, v9, v10, v11, v12, v13, v14, v15, v16, v17, v18, v19, v20, v21, v22, v23, v24, v25, v26, v27, v28, v29, v30, rfl⟩ := len31 hl
                clear hl
                obtain ⟨kh2, _⟩ := hd
                obtain rfl : v2 = .int .i64 d := kh2
                intro K hK
                simp only [fs, fo, fz, Act.put, s1, s2, s3] at hK ⊢
                refine ⟨?_⟩
                go_simp
                exact hK _ _ (Below.refl _ _) rfl
              · intro vs hl u1 hb hd
                obtain ⟨v0, v1, v2, v3, v4, v5, v6, v7, v8, v9, v10, v11, v12, v13, v14, v15, v16, v17, v18, v19, v20, v21, v22, v23, v24, v25, v26, v27, v28, v29, v30, rfl⟩ := len31 hl
                clear hl
                obtain ⟨kh3, kh2, _⟩ := hd
                obtain rfl : v3 = .bool true := kh3
                obtain rfl : v2 = .int .i64 d := kh2
                intro K hK
                simp only [fs, fo, fz, Act.put, s1, s2, s3] at hK ⊢
                refine ⟨?_⟩
                go_simp
                exact hK _ _ (Below.refl _ _) rfl
              · intro vs hl u1 hb hd
                obtain ⟨v0, v1, v2, v3, v4, v5, v6, v7, v8, v9, v10, v11, v12, v13, v14, v15, v16, v17, v18, v19, v20, v21, v22, v23, v24, v25, v26, v27, v28, v29, v30, rfl⟩ := len31 hl
                clear hl
                obtain ⟨kh4, _⟩ := hd
                obtain rfl : v4 = .bool true := kh4
                intro K hK
                obtain ⟨l0, l1⟩ := (B4.below hb).two
                simp only [fs, fo, fz, Act.put, s1, s2, s3] at hK ⊢
                refine ⟨?_⟩
                go_simp
                exact hK _ _ (Below.refl _ _) rfl
              · intro vs hl u1 hb hd
                obtain ⟨v0, v1, v2, v3, v4, v5, v6, v7, v8, v9, v10, v11, v12, v13, v14, v15, v16, v17, v18, v19, v20, v21, v22, v23, v24, v25, v26, v27, v28, v29, v30, rfl⟩ := len31 hl
                clear hl
                obtain ⟨kh4, _⟩ := hd
                obtain rfl : v4 = .bool true := kh4
                intro K hK
                obtain ⟨l0, l1⟩ := (B5.below hb).two
                simp only [fs, fo, fz, Act.put, s1, s2, s3] at hK ⊢
                refine ⟨?_⟩
                go_simp
                exact hK _ _ (Below.refl _ _) rfl
              · intro vs hl u1 hb hd
                obtain ⟨v0, v1, v2, v3, v4, v5, v6, v7, v8, v9, v10, v11, v12, v13, v14, v15, v16, v17, v18, v19, v20, v21, v22, v23, v24, v25, v26, v27, v28, v29, v30, rfl⟩ := len31 hl
                clear hl
                obtain ⟨kh5, kh6, kh4, _, _⟩ := hd
                obtain rfl : v5 = .agg #[.int .i64 a2, .int .i64 a3] := kh5
                obtain rfl : v6 = .agg #[.int .i64 b2, .int .i64 b3] := kh6
                obtain rfl : v4 = .bool true := kh4
                intro K hK
                simp only [fs, fo, fz, Act.put, s1, s2, s3] at hK ⊢
                refine ⟨?_⟩
                go_simp
                refine (Hycr.out _).mono ?_
                rintro e w2 ⟨rfl, hb2⟩
                exact hK _ _ hb2 rfl
              · intro vs hl u1 hb hd
                obtain ⟨v0, v1, v2, v3, v4, v5, v6, v7, v8, v9, v10, v11, v12, v13, v14, v15, v16, v17, v18, v19, v20, v21, v22, v23, v24, v25, v26, v27, v28, v29, v30, rfl⟩ := len31 hl
                clear hl
                obtain ⟨kh7, _, kh4, _⟩ := hd
                obtain rfl : v7 = .int .i64 c := kh7
                obtain rfl : v4 = .bool true := kh4
                intro K hK
                simp only [fs, fo, fz, Act.put, s1, s2, s3] at hK ⊢
                refine ⟨?_⟩
                go_simp
                refine (Hysc.out _).mono ?_
                rintro e w2 ⟨rfl, hb2⟩
                exact hK _ _ hb2 rfl
              · intro vs hl u1 hb hd
                obtain ⟨v0, v1, v2, v3, v4, v5, v6, v7, v8, v9, v10, v11, v12, v13, v14, v15, v16, v17, v18, v19, v20, v21, v22, v23, v24, v25, v26, v27, v28, v29, v30, rfl⟩ := len31 hl
                clear hl
                obtain ⟨kh8, kh4, _⟩ := hd
                obtain rfl : v8 = .int .u64 q1 := kh8
                obtain rfl : v4 = .bool true := kh4
                intro K hK
                simp only [fs, fo, fz, Act.put, s1, s2, s3] at hK ⊢
                refine ⟨?_⟩
                go_simp
                exact hK _ _ (Below.refl _ _) rfl
              · intro vs hl u1 hb hd
                obtain ⟨v0, v1, v2, v3, v4, v5, v6, v7, v8, v9, v10, v11, v12, v13, v14, v15, v16, v17, v18, v19, v20, v21, v22, v23, v24, v25, v26, v27, v28, v29, v30, rfl⟩ := len31 hl
                clear hl
                obtain ⟨kh4, _⟩ := hd
                obtain rfl : v4 = .bool true := kh4
                intro K hK
                obtain ⟨l0, l1⟩ := (B4.below hb).two
                simp only [fs, fo, fz, Act.put, s1, s2, s3] at hK ⊢
                refine ⟨?_⟩
                go_simp
                exact hK _ _ (Below.refl _ _) rfl
              · intro vs hl u1 hb hd
                obtain ⟨v0, v1, v2, v3, v4, v5, v6, v7, v8, v9, v10, v11, v12, v13, v14, v15, v16, v17, v18, v19, v20, v21, v22, v23, v24, v25, v26, v27, v28, v29, v30, rfl⟩ := len31 hl
                clear hl
                obtain ⟨kh4, _⟩ := hd
                obtain rfl : v4 = .bool true := kh4
                intro K hK
                obtain ⟨l0, l1⟩ := (B5.below hb).two
                simp only [fs, fo, fz, Act.put, s1, s2, s3] at hK ⊢
                refine ⟨?_⟩
                go_simp
                exact hK _ _ (Below.refl _ _) rfl
              · intro vs hl u1 hb hd
                obtain ⟨v0, v1, v2, v3, v4, v5, v6, v7, v8, v9, v10, v11, v12, v13, v14, v15, v16, v17, v18, v19, v20, v21, v22, v23, v24, v25, v26, v27, v28, v29, v30, rfl⟩ := len31 hl
                clear hl
                obtain ⟨kh10, kh11, kh8, kh4, _⟩ := hd
                obtain rfl : v10 = .agg #[.int .i64 a2, .int .i64 a3] := kh10
                obtain rfl : v11 = .agg #[.int .i64 b2, .int .i64 b3] := kh11
                obtain rfl : v8 = .int .u64 q1 := kh8
                obtain rfl : v4 = .bool true := kh4
                intro K hK
                simp only [fs, fo, fz, Act.put, s1, s2, s3] at hK ⊢
                refine ⟨?_⟩
                go_simp
                refine (Hydt.out _).mono ?_
                rintro e w2 ⟨rfl, hb2⟩
                exact hK _ _ hb2 rfl
              · intro vs hl u1 hb hd
                obtain ⟨v0, v1, v2, v3, v4, v5, v6, v7, v8, v9, v10, v11, v12, v13, v14, v15, v16, v17, v18, v19, v20, v21, v22, v23, v24, v25, v26, v27, v28, v29, v30, rfl⟩ := len31 hl
                clear hl
                obtain ⟨kh12, _, kh4, _⟩ := hd
                obtain rfl : v12 = .int .i64 d := kh12
                obtain rfl : v4 = .bool true := kh4
                intro K hK
                simp only [fs, fo, fz, Act.put, s1, s2, s3] at hK ⊢
                refine ⟨?_⟩
                go_simp
                refine (Hysd.out _).mono ?_
                rintro e w2 ⟨rfl, hb2⟩
                exact hK _ _ hb2 rfl
              · intro vs hl u1 hb hd
                obtain ⟨v0, v1, v2, v3, v4, v5, v6, v7, v8, v9, v10, v11, v12, v13, v14, v15, v16, v17, v18, v19, v20, v21, v22, v23, v24, v25, v26, v27, v28, v29, v30, rfl⟩ := len31 hl
                clear hl
                obtain ⟨kh9, kh13, kh4, _⟩ := hd
                obtain rfl : v9 = .int .u64 (IntKind.u64.wrap (q1 * 100)) := kh9
                obtain rfl : v13 = .int .u64 q2 := kh13
                obtain rfl : v4 = .bool true := kh4
                intro K hK
                simp only [fs, fo, fz, Act.put, s1, s2, s3] at hK ⊢
                refine ⟨?_⟩
                go_simp
                exact hK _ _ (Below.refl _ _) rfl
              · intro vs hl u1 hb hd
                obtain ⟨v0, v1, v2, v3, v4, v5, v6, v7, v8, v9, v10, v11, v12, v13, v14, v15, v16, v17, v18, v19, v20, v21, v22, v23, v24, v25, v26, v27, v28, v29, v30, rfl⟩ := len31 hl
                clear hl
                obtain ⟨kh4, kh14, _⟩ := hd
                obtain rfl : v4 = .bool true := kh4
                obtain rfl : v14 = .bool true := kh14
                intro K hK
                simp only [fs, fo, fz, Act.put, s1, s2, s3] at hK ⊢
                refine ⟨?_⟩
                go_simp
                exact hK _ _ (Below.refl _ _) rfl
              · intro vs hl u1 hb hd
                obtain ⟨v0, v1, v2, v3, v4, v5, v6, v7, v8, v9, v10, v11, v12, v13, v14, v15, v16, v17, v18, v19, v20, v21, v22, v23, v24, v25, v26, v27, v28, v29, v30, rfl⟩ := len31 hl
                clear hl
                obtain ⟨kh15, kh13, _⟩ := hd
                obtain rfl : v15 = .bool true := kh15
                obtain rfl : v13 = .int .u64 q2 := kh13
                intro K hK
                simp only [fs, fo, fz, Act.put, s1, s2, s3] at hK ⊢
                refine ⟨?_⟩
                go_simp
                exact hK _ _ (Below.refl _ _) rfl
              · intro vs hl u1 hb hd
                obtain ⟨v0, v1, v2, v3, v4, v5, v6, v7, v8, v9, v10, v11, v12, v13, v14, v15, v16, v17, v18, v19, v20, v21, v22, v23, v24, v25, v26, v27, v28, v29, v30, rfl⟩ := len31 hl
                clear hl
                obtain ⟨kh16, _⟩ := hd
                obtain rfl : v16 = .bool true := kh16
                intro K hK
                obtain ⟨l0, l1, l2, l3, l4, l5⟩ := (BB.below hb).six
                simp only [fs, fo, fz, Act.put, s1, s2, s3] at hK ⊢
                refine ⟨?_⟩
                go_simp
                exact hK _ _ (Below.refl _ _) rfl
              · intro vs hl u1 hb hd
                obtain ⟨v0, v1, v2, v3, v4, v5, v6, v7, v8, v9, v10, v11, v12, v13, v14, v15, v16, v17, v18, v19, v20, v21, v22, v23, v24, v25, v26, v27, v28, v29, v30, rfl⟩ := len31 hl
                clear hl
                obtain ⟨kh16, _⟩ := hd
                obtain rfl : v16 = .bool true := kh16
                intro K hK
                obtain ⟨l0, l1, l2, l3, l4, l5⟩ := (BA.below hb).six
                simp only [fs, fo, fz, Act.put, s1, s2, s3] at hK ⊢
                refine ⟨?_⟩
                go_simp
                exact hK _ _ (Below.refl _ _) rfl
              · intro vs hl u1 hb hd
                obtain ⟨v0, v1, v2, v3, v4, v5, v6, v7, v8, v9, v10, v11, v12, v13, v14, v15, v16, v17, v18, v19, v20, v21, v22, v23, v24, v25, v26, v27, v28, v29, v30, rfl⟩ := len31 hl
                clear hl
                obtain ⟨kh17, kh18, kh16, _, _⟩ := hd
                obtain rfl : v17 = .agg #[.int .i64 b0, .int .i64 b1, .int .i64 b2, .int .i64 b3, .int .i64 b4, .int .i64 b5] := kh17
                obtain rfl : v18 = .agg #[.int .i64 a0, .int .i64 a1, .int .i64 a2, .int .i64 a3, .int .i64 a4, .int .i64 a5] := kh18
                obtain rfl : v16 = .bool true := kh16
                intro K hK
                simp only [fs, fo, fz, Act.put, s1, s2, s3] at hK ⊢
                refine ⟨?_⟩
                go_simp
                refine (Hyb1.out _).mono ?_
                rintro e w2 ⟨rfl, hb2⟩
                exact hK _ _ hb2 rfl
              · intro vs hl u1 hb hd
                obtain ⟨v0, v1, v2, v3, v4, v5, v6, v7, v8, v9, v10, v11, v12, v13, v14, v15, v16, v17, v18, v19, v20, v21, v22, v23, v24, v25, v26, v27, v28, v29, v30, rfl⟩ := len31 hl
                clear hl
                obtain ⟨kh16, _⟩ := hd
                obtain rfl : v16 = .bool true := kh16
                intro K hK
                obtain ⟨l0, l1⟩ := (B4.below hb).two
                simp only [fs, fo, fz, Act.put, s1, s2, s3] at hK ⊢
                refine ⟨?_⟩
                go_simp
                exact hK _ _ (Below.refl _ _) rfl
              · intro vs hl u1 hb hd
                obtain ⟨v0, v1, v2, v3, v4, v5, v6, v7, v8, v9, v10, v11, v12, v13, v14, v15, v16, v17, v18, v19, v20, v21, v22, v23, v24, v25, v26, v27, v28, v29, v30, rfl⟩ := len31 hl
                clear hl
                obtain ⟨kh19, kh20, _, kh16, _⟩ := hd
                obtain rfl : v19 = .agg #[.int .i64 m1, .int .i64 m2] := kh19
                obtain rfl : v20 = .agg #[.int .i64 a2, .int .i64 a3] := kh20
                obtain rfl : v16 = .bool true := kh16
                intro K hK
                simp only [fs, fo, fz, Act.put, s1, s2, s3] at hK ⊢
                refine ⟨?_⟩
                go_simp
                refine (Hyh1.out _).mono ?_
                rintro e w2 ⟨rfl, hb2⟩
                exact hK _ _ hb2 rfl
              · intro vs hl u1 hb hd
                obtain ⟨v0, v1, v2, v3, v4, v5, v6, v7, v8, v9, v10, v11, v12, v13, v14, v15, v16, v17, v18, v19, v20, v21, v22, v23, v24, v25, v26, v27, v28, v29, v30, rfl⟩ := len31 hl
                clear hl
                obtain ⟨kh16, kh21, _⟩ := hd
                obtain rfl : v16 = .bool true := kh16
                obtain rfl : v21 = .bool true := kh21
                intro K hK
                simp only [fs, fo, fz, Act.put, s1, s2, s3] at hK ⊢
                refine ⟨?_⟩
                go_simp
                exact hK _ _ (Below.refl _ _) rfl
              · intro vs hl u1 hb hd
                obtain ⟨v0, v1, v2, v3, v4, v5, v6, v7, v8, v9, v10, v11, v12, v13, v14, v15, v16, v17, v18, v19, v20, v21, v22, v23, v24, v25, v26, v27, v28, v29, v30, rfl⟩ := len31 hl
                clear hl
                obtain ⟨kh22, kh21, _⟩ := hd
                obtain rfl : v22 = .bool true := kh22
                obtain rfl : v21 = .bool true := kh21
                intro K hK
                simp only [fs, fo, fz, Act.put, s1, s2, s3] at hK ⊢
                refine ⟨?_⟩
                go_simp
                exact hK _ _ (Below.refl _ _) rfl
              · intro vs hl u1 hb hd
                obtain ⟨v0, v1, v2, v3, v4, v5, v6, v7, v8, v9, v10, v11, v12, v13, v14, v15, v16, v17, v18, v19, v20, v21, v22, v23, v24, v25, v26, v27, v28, v29, v30, rfl⟩ := len31 hl
                clear hl
                obtain ⟨kh23, _⟩ := hd
                obtain rfl : v23 = .bool true := kh23
                intro K hK
                obtain ⟨l0, l1, l2, l3, l4, l5⟩ := (BA.below hb).six
                simp only [fs, fo, fz, Act.put, s1, s2, s3] at hK ⊢
                refine ⟨?_⟩
                go_simp
                exact hK _ _ (Below.refl _ _) rfl
              · intro vs hl u1 hb hd
                obtain ⟨v0, v1, v2, v3, v4, v5, v6, v7, v8, v9, v10, v11, v12, v13, v14, v15, v16, v17, v18, v19, v20, v21, v22, v23, v24, v25, v26, v27, v28, v29, v30, rfl⟩ := len31 hl
                clear hl
                obtain ⟨kh23, _⟩ := hd
                obtain rfl : v23 = .bool true := kh23
                intro K hK
                obtain ⟨l0, l1, l2, l3, l4, l5⟩ := (BB.below hb).six
                simp only [fs, fo, fz, Act.put, s1, s2, s3] at hK ⊢
                refine ⟨?_⟩
                go_simp
                exact hK _ _ (Below.refl _ _) rfl
              · intro vs hl u1 hb hd
                obtain ⟨v0, v1, v2, v3, v4, v5, v6, v7, v8, v9, v10, v11, v12, v13, v14, v15, v16, v17, v18, v19, v20, v21, v22, v23, v24, v25, v26, v27, v28, v29, v30, rfl⟩ := len31 hl
                clear hl
                obtain ⟨kh24, kh25, kh23, _, _⟩ := hd
                obtain rfl : v24 = .agg #[.int .i64 a0, .int .i64 a1, .int .i64 a2, .int .i64 a3, .int .i64 a4, .int .i64 a5] := kh24
                obtain rfl : v25 = .agg #[.int .i64 b0, .int .i64 b1, .int .i64 b2, .int .i64 b3, .int .i64 b4, .int .i64 b5] := kh25
                obtain rfl : v23 = .bool true := kh23
                intro K hK
                simp only [fs, fo, fz, Act.put, s1, s2, s3] at hK ⊢
                refine ⟨?_⟩
                go_simp
                refine (Hyb2.out _).mono ?_
                rintro e w2 ⟨rfl, hb2⟩
                exact hK _ _ hb2 rfl
              · intro vs hl u1 hb hd
                obtain ⟨v0, v1, v2, v3, v4, v5, v6, v7, v8, v9, v10, v11, v12, v13, v14, v15, v16, v17, v18, v19, v20, v21, v22, v23, v24, v25, v26, v27, v28, v29, v30, rfl⟩ := len31 hl
                clear hl
                obtain ⟨kh23, _⟩ := hd
                obtain rfl : v23 = .bool true := kh23
                intro K hK
                obtain ⟨l0, l1⟩ := (B5.below hb).two
                simp only [fs, fo, fz, Act.put, s1, s2, s3] at hK ⊢
                refine ⟨?_⟩
                go_simp
                exact hK _ _ (Below.refl _ _) rfl
              · intro vs hl u1 hb hd
                obtain ⟨v0, v1, v2, v3, v4, v5, v6, v7, v8, v9, v10, v11, v12, v13, v14, v15, v16, v17, v18, v19, v20, v21, v22, v23, v24, v25, v26, v27, v28, v29, v30, rfl⟩ := len31 hl
                clear hl
                obtain ⟨kh26, kh27, _, kh23, _⟩ := hd
                obtain rfl : v26 = .agg #[.int .i64 n1, .int .i64 n2] := kh26
                obtain rfl : v27 = .agg #[.int .i64 b2, .int .i64 b3] := kh27
                obtain rfl : v23 = .bool true := kh23
                intro K hK
                simp only [fs, fo, fz, Act.put, s1, s2, s3] at hK ⊢
                refine ⟨?_⟩
                go_simp
                refine (Hyh2.out _).mono ?_
                rintro e w2 ⟨rfl, hb2⟩
                exact hK _ _ hb2 rfl
              · intro vs hl u1 hb hd
                obtain ⟨v0, v1, v2, v3, v4, v5, v6, v7, v8, v9, v10, v11, v12, v13, v14, v15, v16, v17, v18, v19, v20, v21, v22, v23, v24, v25, v26, v27, v28, v29, v30, rfl⟩ := len31 hl
                clear hl
                obtain ⟨kh23, kh28, _⟩ := hd
                obtain rfl : v23 = .bool true := kh23
                obtain rfl : v28 = .bool h2 := kh28
                intro K hK
                simp only [fs, fo, fz, Act.put, s1, s2, s3] at hK ⊢
                refine ⟨?_⟩
                go_simp
                exact hK _ _ (Below.refl _ _) rfl
              · intro vs hl u1 hb hd
                obtain ⟨v0, v1, v2, v3, v4, v5, v6, v7, v8, v9, v10, v11, v12, v13, v14, v15, v16, v17, v18, v19, v20, v21, v22, v23, v24, v25, v26, v27, v28, v29, v30, rfl⟩ := len31 hl
                clear hl
                obtain ⟨kh29, kh28, kh0, kh1, kh2, kh3, kh4, kh5, kh6, kh7, kh8, kh9, kh10, kh11, kh12, kh13, kh14, kh15, kh16, kh17, kh18, kh19, kh20, kh21, kh22, kh23, kh24, kh25, kh26, kh27, _, _, _⟩ := hd
                obtain rfl : v29 = .bool h2 := kh29
                obtain rfl : v28 = .bool h2 := kh28
                obtain rfl : v0 = .agg #[.int .i64 a2, .int .i64 a3] := kh0
                obtain rfl : v1 = .agg #[.int .i64 b2, .int .i64 b3] := kh1
                obtain rfl : v2 = .int .i64 d := kh2
                obtain rfl : v3 = .bool true := kh3
                obtain rfl : v4 = .bool true := kh4
                obtain rfl : v5 = .agg #[.int .i64 a2, .int .i64 a3] := kh5
                obtain rfl : v6 = .agg #[.int .i64 b2, .int .i64 b3] := kh6
                obtain rfl : v7 = .int .i64 c := kh7
                obtain rfl : v8 = .int .u64 q1 := kh8
                obtain rfl : v9 = .int .u64 (IntKind.u64.wrap (q1 * 100)) := kh9
                obtain rfl : v10 = .agg #[.int .i64 a2, .int .i64 a3] := kh10
                obtain rfl : v11 = .agg #[.int .i64 b2, .int .i64 b3] := kh11
                obtain rfl : v12 = .int .i64 d := kh12
                obtain rfl : v13 = .int .u64 q2 := kh13
                obtain rfl : v14 = .bool true := kh14
                obtain rfl : v15 = .bool true := kh15
                obtain rfl : v16 = .bool true := kh16
                obtain rfl : v17 = .agg #[.int .i64 b0, .int .i64 b1, .int .i64 b2, .int .i64 b3, .int .i64 b4, .int .i64 b5] := kh17
                obtain rfl : v18 = .agg #[.int .i64 a0, .int .i64 a1, .int .i64 a2, .int .i64 a3, .int .i64 a4, .int .i64 a5] := kh18
                obtain rfl : v19 = .agg #[.int .i64 m1, .int .i64 m2] := kh19
                obtain rfl : v20 = .agg #[.int .i64 a2, .int .i64 a3] := kh20
                obtain rfl : v21 = .bool true := kh21
                obtain rfl : v22 = .bool true := kh22
                obtain rfl : v23 = .bool true := kh23
                obtain rfl : v24 = .agg #[.int .i64 a0, .int .i64 a1, .int .i64 a2, .int .i64 a3, .int .i64 a4, .int .i64 a5] := kh24
                obtain rfl : v25 = .agg #[.int .i64 b0, .int .i64 b1, .int .i64 b2, .int .i64 b3, .int .i64 b4, .int .i64 b5] := kh25
                obtain rfl : v26 = .agg #[.int .i64 n1, .int .i64 n2] := kh26
                obtain rfl : v27 = .agg #[.int .i64 b2, .int .i64 b3] := kh27
                intro K hK
                simp only [fs, fo, fz, Act.put, s1, s2, s3] at hK ⊢
                refine ⟨?_⟩
                go_simp
                exact hK _ _ (Below.refl _ _) rfl
              · intro vs hl w4 hb hd ha
                obtain ⟨v0, v1, v2, v3, v4, v5, v6, v7, v8, v9, v10, v11, v12, v13, v14, v15, v16, v17, v18, v19, v20, v21, v22, v23, v24, v25, v26, v27, v28, v29, v30, rfl⟩ := len31 hl
                clear hl
                obtain ⟨kh0, kh1, kh2, kh3, kh4, kh5, kh6, kh7, kh8, kh9, kh10, kh11, kh12, kh13, kh14, kh15, kh16, kh17, kh18, kh19, kh20, kh21, kh22, kh23, kh24, kh25, kh26, kh27, kh28, kh29, kh30, _⟩ := hd
                obtain rfl : v0 = .agg #[.int .i64 a2, .int .i64 a3] := kh0
                obtain rfl : v1 = .agg #[.int .i64 b2, .int .i64 b3] := kh1
                obtain rfl : v2 = .int .i64 d := kh2
                obtain rfl : v3 = .bool true := kh3
                obtain rfl : v4 = .bool true := kh4
                obtain rfl : v5 = .agg #[.int .i64 a2, .int .i64 a3] := kh5
                obtain rfl : v6 = .agg #[.int .i64 b2, .int .i64 b3] := kh6
                obtain rfl : v7 = .int .i64 c := kh7
                obtain rfl : v8 = .int .u64 q1 := kh8
                obtain rfl : v9 = .int .u64 (IntKind.u64.wrap (q1 * 100)) := kh9
                obtain rfl : v10 = .agg #[.int .i64 a2, .int .i64 a3] := kh10
                obtain rfl : v11 = .agg #[.int .i64 b2, .int .i64 b3] := kh11
                obtain rfl : v12 = .int .i64 d := kh12
                obtain rfl : v13 = .int .u64 q2 := kh13
                obtain rfl : v14 = .bool true := kh14
                obtain rfl : v15 = .bool true := kh15
                obtain rfl : v16 = .bool true := kh16
                obtain rfl : v17 = .agg #[.int .i64 b0, .int .i64 b1, .int .i64 b2, .int .i64 b3, .int .i64 b4, .int .i64 b5] := kh17
                obtain rfl : v18 = .agg #[.int .i64 a0, .int .i64 a1, .int .i64 a2, .int .i64 a3, .int .i64 a4, .int .i64 a5] := kh18
                obtain rfl : v19 = .agg #[.int .i64 m1, .int .i64 m2] := kh19
                obtain rfl : v20 = .agg #[.int .i64 a2, .int .i64 a3] := kh20
                obtain rfl : v21 = .bool true := kh21
                obtain rfl : v22 = .bool true := kh22
                obtain rfl : v23 = .bool true := kh23
                obtain rfl : v24 = .agg #[.int .i64 a0, .int .i64 a1, .int .i64 a2, .int .i64 a3, .int .i64 a4, .int .i64 a5] := kh24
                obtain rfl : v25 = .agg #[.int .i64 b0, .int .i64 b1, .int .i64 b2, .int .i64 b3, .int .i64 b4, .int .i64 b5] := kh25
                obtain rfl : v26 = .agg #[.int .i64 n1, .int .i64 n2] := kh26
                obtain rfl : v27 = .agg #[.int .i64 b2, .int .i64 b3] := kh27
                obtain rfl : v28 = .bool h2 := kh28
                obtain rfl : v29 = .bool h2 := kh29
                obtain rfl : v30 = .bool h2 := kh30
                clear ha
                simp only [fs, fo, fz, Act.put, s1, s2, s3]
                replace BA := BA.below hb
                replace BB := BB.below hb
                replace B4 := B4.below hb
                replace B5 := B5.below hb
                replace HB := Aside0.mk (HB.out.trans ((Below.trans (show Below w3.heap.size w3 w3.drew from pw_below_drewN (Below.refl _ _) 1) hb).mono HB.out.size))
                clear hb
                go_wp2
                go_ret
                exact ⟨by first | rfl | (simp only [hp0, hp1]; rfl), HB.out⟩
end Go.Proofs.Ytfbokdbaondjdaa.Ai
/- Short names for what the walks' texts say often. -/
namespace Go.Proofs.Ytfbokdbaondjdaa.Cz
open Go.RowKit Go.Proofs.YtfbokdbaondjdaaW.PrintWords Go.Proofs.YtfbokdbaondjdaaW.PrintLast
def bz (n m : Nat) : Array Bool := ((List.range n).map fun i => m.testBit i).toArray
theorem nz1 {w : World} {a : Addr} {v : Value} {g : Nat} (h : w.cell? a = some v) (hg : w.heap.size ≤ g) : a.block ≠ g := Nat.ne_of_lt (Nat.lt_of_lt_of_le (World.block_lt_of_cell? _ _ h) hg)
theorem nz2 {w : World} {a : Addr} {j : Nat} {v : Value} {g : Nat} (h : w.cell? (a.add j) = some v) (hg : w.heap.size ≤ g) : a.block ≠ g := by
  have := World.block_lt_of_cell? _ _ h
  rw [add_block] at this
  exact Nat.ne_of_lt (Nat.lt_of_lt_of_le this hg)
theorem nz3 {w : World} {a : Addr} {j : Nat} {v : Value} {g : Nat} (h : w.cell? a = some v) (hg : w.heap.size ≤ g) : (a.add j).block ≠ g := by
  rw [add_block]
  exact nz1 h hg
theorem z1 {w : World} {g : Nat} {o : Obj} (h : w.heap[g]? = some o) (n : Nat) : (w.drewN n).heap[g]? = some o := blk_drewN h n
theorem z2 {w : World} {g : Nat} {o : Obj} (h : w.heap[g]? = some o) : w.drew.heap[g]? = some o := blk_drew h
theorem z3 {w : World} {g : Nat} {o : Obj} (h : w.heap[g]? = some o) (o' : Obj) : (w.alloc o').heap[g]? = some o := blk_alloc h o'
theorem y1 {α : Type} (l : List α) (i : Nat) (a : α) : l.toArray.setIfInBounds i a = (l.set i a).toArray := List.setIfInBounds_toArray ..
theorem y2 {α : Type} (a b : α) (l : List α) : (a :: l).set 0 b = b :: l := rfl
theorem y3 {α : Type} (a b : α) (l : List α) (n : Nat) : (a :: l).set (n + 1) b = a :: l.set n b := rfl
end Go.Proofs.Ytfbokdbaondjdaa.Cz
-- printed for this claim out of the translation
namespace Go.Proofs.Ytfbokdbaondjdaa.PV1
open Go.RowKit Go.Proofs.YtfbokdbaondjdaaW.PrintWords Go.Proofs.YtfbokdbaondjdaaW.PrintLast Go.Proofs.YtfbokdbaondjdaaW.PrintMore Go.Proofs.Ytfbokdbaondjdaa.Cz
attribute [local go_sem] max2_int min2_int max_two min_two max_three min_three max_four min_four
set_option linter.unusedVariables false
set_option linter.unusedSimpArgs false



def errW : Option Int → Value
 | none => .nilIface
 | some c => .iface 0 (.int .i64 c)
theorem errW_none : errW none = .nilIface := rfl
theorem errW_some (c : Int) : errW (some c) = .iface 0 (.int .i64 c) := rfl

theorem info3 : (Try.prog.info? 3).map (fun i => (i.zero, i.size, i.bytes)) = some (some (.int .i64 0), 1, 8) := by kernel_rfl
theorem info25 : (Try.prog.info? 25).map (fun i => (i.zero, i.size, i.bytes)) = some (some (.agg #[(.int .i64 0), (.int .i64 0), (.int .i64 0), (.int .i64 0), (.int .i64 0), (.int .i64 0)]), 6, 48) := by kernel_rfl
theorem info43 : (Try.prog.info? 43).map (fun i => (i.zero, i.size, i.bytes)) = some (some (.slice none 0 0), 1, 24) := by kernel_rfl
-- the values' own types
/-! #### struct type 25 -/
structure S25 where
 f0 : Int
 f1 : Int
 f2 : Int
 f3 : Int
 f4 : Int
 f5 : Int
def z25 : S25 := ⟨(0 : Int), (0 : Int), (0 : Int), (0 : Int), (0 : Int), (0 : Int)⟩
def k25 : Kd S25 := Kd.iso (Kd.pair (Kd.int .i64) (Kd.pair (Kd.int .i64) (Kd.pair (Kd.int .i64) (Kd.pair (Kd.int .i64) (Kd.pair (Kd.int .i64) (Kd.int .i64)))))) (fun x : S25 => (x.f0, x.f1, x.f2, x.f3, x.f4, x.f5))
theorem k25_open {w : World} {x : S25} {cs : List Value} (h : k25.K w x cs) : cs = [.int .i64 x.f0, .int .i64 x.f1, .int .i64 x.f2, .int .i64 x.f3, .int .i64 x.f4, .int .i64 x.f5] := by
 obtain ⟨_, _, rfl, rfl, ⟨_, _, rfl, rfl, ⟨_, _, rfl, rfl, ⟨_, _, rfl, rfl, ⟨_, _, rfl, rfl, rfl⟩⟩⟩⟩⟩ := h
 exact rfl
theorem k25_openM {w : World} {base : Nat} {ok : Nat → Prop} {x : S25} {cs : List Value} (h : k25.M w base ok x cs) : cs = [.int .i64 x.f0, .int .i64 x.f1, .int .i64 x.f2, .int .i64 x.f3, .int .i64 x.f4, .int .i64 x.f5] := by
 obtain ⟨_, _, rfl, rfl, ⟨_, _, rfl, rfl, ⟨_, _, rfl, rfl, ⟨_, _, rfl, rfl, ⟨_, _, rfl, rfl, rfl⟩⟩⟩⟩⟩ := h
 exact rfl
theorem k25_mk (w : World) (x : S25)  : k25.K w x [.int .i64 x.f0, .int .i64 x.f1, .int .i64 x.f2, .int .i64 x.f3, .int .i64 x.f4, .int .i64 x.f5] := ⟨[.int .i64 x.f0], [.int .i64 x.f1, .int .i64 x.f2, .int .i64 x.f3, .int .i64 x.f4, .int .i64 x.f5], rfl, rfl, ⟨[.int .i64 x.f1], [.int .i64 x.f2, .int .i64 x.f3, .int .i64 x.f4, .int .i64 x.f5], rfl, rfl, ⟨[.int .i64 x.f2], [.int .i64 x.f3, .int .i64 x.f4, .int .i64 x.f5], rfl, rfl, ⟨[.int .i64 x.f3], [.int .i64 x.f4, .int .i64 x.f5], rfl, rfl, ⟨[.int .i64 x.f4], [.int .i64 x.f5], rfl, rfl, rfl⟩⟩⟩⟩⟩
theorem k25_mkM (w : World) (base : Nat) (ok : Nat → Prop) (x : S25)  : k25.M w base ok x [.int .i64 x.f0, .int .i64 x.f1, .int .i64 x.f2, .int .i64 x.f3, .int .i64 x.f4, .int .i64 x.f5] := ⟨[.int .i64 x.f0], [.int .i64 x.f1, .int .i64 x.f2, .int .i64 x.f3, .int .i64 x.f4, .int .i64 x.f5], rfl, rfl, ⟨[.int .i64 x.f1], [.int .i64 x.f2, .int .i64 x.f3, .int .i64 x.f4, .int .i64 x.f5], rfl, rfl, ⟨[.int .i64 x.f2], [.int .i64 x.f3, .int .i64 x.f4, .int .i64 x.f5], rfl, rfl, ⟨[.int .i64 x.f3], [.int .i64 x.f4, .int .i64 x.f5], rfl, rfl, ⟨[.int .i64 x.f4], [.int .i64 x.f5], rfl, rfl, rfl⟩⟩⟩⟩⟩
def rd_T25 (xs : List S25) (i : Int) : S25 := xs.getD i.toNat z25
theorem at_T25 {w : World} {A : Option Addr} {n : Nat} {xs : List S25} (h : Kd.C k25 w A n xs) (i : Int) (h0 : 0 ≤ i) (h1 : i < n) : ∃ ad , A = some ad ∧ w.cell? (ad.add (i.toNat * 6)) = some (.int .i64 (rd_T25 xs i).f0) ∧ w.cell? ⟨(ad.add (i.toNat * 6)).block, (ad.add (i.toNat * 6)).off + 1, none⟩ = some (.int .i64 (rd_T25 xs i).f1) ∧ w.cell? ⟨(ad.add (i.toNat * 6)).block, (ad.add (i.toNat * 6)).off + 2, none⟩ = some (.int .i64 (rd_T25 xs i).f2) ∧ w.cell? ⟨(ad.add (i.toNat * 6)).block, (ad.add (i.toNat * 6)).off + 3, none⟩ = some (.int .i64 (rd_T25 xs i).f3) ∧ w.cell? ⟨(ad.add (i.toNat * 6)).block, (ad.add (i.toNat * 6)).off + 4, none⟩ = some (.int .i64 (rd_T25 xs i).f4) ∧ w.cell? ⟨(ad.add (i.toNat * 6)).block, (ad.add (i.toNat * 6)).off + 5, none⟩ = some (.int .i64 (rd_T25 xs i).f5) := by
 obtain ⟨ad, c, e, _, hK, hc0⟩ := Kd.C_get h z25 i h0 h1
 have hc : ∀ j u, c[j]? = some u → w.cell? (ad.add (i.toNat * 6 + j)) = some u := hc0
 obtain rfl := k25_open hK
 exact ⟨ad, e, hc 0 _ rfl, by rw [← add_field _ _ 1 (by omega)]; exact hc 1 _ rfl, by rw [← add_field _ _ 2 (by omega)]; exact hc 2 _ rfl, by rw [← add_field _ _ 3 (by omega)]; exact hc 3 _ rfl, by rw [← add_field _ _ 4 (by omega)]; exact hc 4 _ rfl, by rw [← add_field _ _ 5 (by omega)]; exact hc 5 _ rfl⟩

def rd_L3 (xs : List (List Int)) (i : Int) : (List Int) := xs.getD i.toNat ([] : List Int)
theorem at_L3 {w : World} {A : Option Addr} {n : Nat} {xs : List (List Int)} (h : Kd.C (Kd.slice 3 (Kd.int .i64)) w A n xs) (i : Int) (h0 : 0 ≤ i) (h1 : i < n) : ∃ ad A0 c0, A = some ad ∧ w.cell? (ad.add i.toNat) = some (.slice A0 (rd_L3 xs i).length c0) ∧ (rd_L3 xs i).length ≤ c0 ∧ (Kd.int .i64).C w A0 (rd_L3 xs i).length (rd_L3 xs i) := by
 obtain ⟨ad, c, e, _, hK, hc0⟩ := Kd.C_get h ([] : List Int) i h0 h1
 have hc : ∀ j u, c[j]? = some u → w.cell? (ad.add (i.toNat * 1 + j)) = some u := hc0
 obtain ⟨A0, c0, rfl, l0, g0⟩ := hK
 exact ⟨ad, A0, c0, e, by have hq := hc 0 _ rfl; rwa [Nat.mul_one, Nat.add_zero] at hq, l0, g0⟩

/-! #### struct type 23 -/
structure S23 where
 f0 : Int
 f1 : Int
 f2 : Int
 f3 : Int
 f4 : Int
 f5 : Int
def z23 : S23 := ⟨(0 : Int), (0 : Int), (0 : Int), (0 : Int), (0 : Int), (0 : Int)⟩
def k23 : Kd S23 := Kd.iso (Kd.pair (Kd.int .i64) (Kd.pair (Kd.int .i64) (Kd.pair (Kd.int .i64) (Kd.pair (Kd.int .i64) (Kd.pair (Kd.int .i64) (Kd.int .i64)))))) (fun x : S23 => (x.f0, x.f1, x.f2, x.f3, x.f4, x.f5))
theorem k23_open {w : World} {x : S23} {cs : List Value} (h : k23.K w x cs) : cs = [.int .i64 x.f0, .int .i64 x.f1, .int .i64 x.f2, .int .i64 x.f3, .int .i64 x.f4, .int .i64 x.f5] := by
 obtain ⟨_, _, rfl, rfl, ⟨_, _, rfl, rfl, ⟨_, _, rfl, rfl, ⟨_, _, rfl, rfl, ⟨_, _, rfl, rfl, rfl⟩⟩⟩⟩⟩ := h
 exact rfl
theorem k23_openM {w : World} {base : Nat} {ok : Nat → Prop} {x : S23} {cs : List Value} (h : k23.M w base ok x cs) : cs = [.int .i64 x.f0, .int .i64 x.f1, .int .i64 x.f2, .int .i64 x.f3, .int .i64 x.f4, .int .i64 x.f5] := by
 obtain ⟨_, _, rfl, rfl, ⟨_, _, rfl, rfl, ⟨_, _, rfl, rfl, ⟨_, _, rfl, rfl, ⟨_, _, rfl, rfl, rfl⟩⟩⟩⟩⟩ := h
 exact rfl
theorem k23_mk (w : World) (x : S23)  : k23.K w x [.int .i64 x.f0, .int .i64 x.f1, .int .i64 x.f2, .int .i64 x.f3, .int .i64 x.f4, .int .i64 x.f5] := ⟨[.int .i64 x.f0], [.int .i64 x.f1, .int .i64 x.f2, .int .i64 x.f3, .int .i64 x.f4, .int .i64 x.f5], rfl, rfl, ⟨[.int .i64 x.f1], [.int .i64 x.f2, .int .i64 x.f3, .int .i64 x.f4, .int .i64 x.f5], rfl, rfl, ⟨[.int .i64 x.f2], [.int .i64 x.f3, .int .i64 x.f4, .int .i64 x.f5], rfl, rfl, ⟨[.int .i64 x.f3], [.int .i64 x.f4, .int .i64 x.f5], rfl, rfl, ⟨[.int .i64 x.f4], [.int .i64 x.f5], rfl, rfl, rfl⟩⟩⟩⟩⟩
theorem k23_mkM (w : World) (base : Nat) (ok : Nat → Prop) (x : S23)  : k23.M w base ok x [.int .i64 x.f0, .int .i64 x.f1, .int .i64 x.f2, .int .i64 x.f3, .int .i64 x.f4, .int .i64 x.f5] := ⟨[.int .i64 x.f0], [.int .i64 x.f1, .int .i64 x.f2, .int .i64 x.f3, .int .i64 x.f4, .int .i64 x.f5], rfl, rfl, ⟨[.int .i64 x.f1], [.int .i64 x.f2, .int .i64 x.f3, .int .i64 x.f4, .int .i64 x.f5], rfl, rfl, ⟨[.int .i64 x.f2], [.int .i64 x.f3, .int .i64 x.f4, .int .i64 x.f5], rfl, rfl, ⟨[.int .i64 x.f3], [.int .i64 x.f4, .int .i64 x.f5], rfl, rfl, ⟨[.int .i64 x.f4], [.int .i64 x.f5], rfl, rfl, rfl⟩⟩⟩⟩⟩
def rd_T23 (xs : List S23) (i : Int) : S23 := xs.getD i.toNat z23
theorem at_T23 {w : World} {A : Option Addr} {n : Nat} {xs : List S23} (h : Kd.C k23 w A n xs) (i : Int) (h0 : 0 ≤ i) (h1 : i < n) : ∃ ad , A = some ad ∧ w.cell? (ad.add (i.toNat * 6)) = some (.int .i64 (rd_T23 xs i).f0) ∧ w.cell? ⟨(ad.add (i.toNat * 6)).block, (ad.add (i.toNat * 6)).off + 1, none⟩ = some (.int .i64 (rd_T23 xs i).f1) ∧ w.cell? ⟨(ad.add (i.toNat * 6)).block, (ad.add (i.toNat * 6)).off + 2, none⟩ = some (.int .i64 (rd_T23 xs i).f2) ∧ w.cell? ⟨(ad.add (i.toNat * 6)).block, (ad.add (i.toNat * 6)).off + 3, none⟩ = some (.int .i64 (rd_T23 xs i).f3) ∧ w.cell? ⟨(ad.add (i.toNat * 6)).block, (ad.add (i.toNat * 6)).off + 4, none⟩ = some (.int .i64 (rd_T23 xs i).f4) ∧ w.cell? ⟨(ad.add (i.toNat * 6)).block, (ad.add (i.toNat * 6)).off + 5, none⟩ = some (.int .i64 (rd_T23 xs i).f5) := by
 obtain ⟨ad, c, e, _, hK, hc0⟩ := Kd.C_get h z23 i h0 h1
 have hc : ∀ j u, c[j]? = some u → w.cell? (ad.add (i.toNat * 6 + j)) = some u := hc0
 obtain rfl := k23_open hK
 exact ⟨ad, e, hc 0 _ rfl, by rw [← add_field _ _ 1 (by omega)]; exact hc 1 _ rfl, by rw [← add_field _ _ 2 (by omega)]; exact hc 2 _ rfl, by rw [← add_field _ _ 3 (by omega)]; exact hc 3 _ rfl, by rw [← add_field _ _ 4 (by omega)]; exact hc 4 _ rfl, by rw [← add_field _ _ 5 (by omega)]; exact hc 5 _ rfl⟩

end Go.Proofs.Ytfbokdbaondjdaa.PV1
/- Short names for what the walks' texts say often, second part: parts with an argument told by default. -/
namespace Go.Proofs.Ytfbokdbaondjdaa.Cz
open Go.RowKit Go.Proofs.YtfbokdbaondjdaaW.PrintWords Go.Proofs.YtfbokdbaondjdaaW.PrintLast
theorem zk {p q : Prop} (b : q) (h : q → p := by intro b; (with_reducible repeat (first | refine z1 ?_ _ | refine z2 ?_ | refine z3 ?_ _)); exact b) : p := h b
theorem nlt {w : World} {g gb : Nat} {o : Obj} (hg : gb = w.heap.size) (h : w.heap[g]? = some o) : g ≠ gb := by rw [hg]; exact Nat.ne_of_lt (blk_lt h)
theorem ngt {w : World} {g gb : Nat} {o : Obj} (hg : gb = w.heap.size) (h : w.heap[g]? = some o) : gb ≠ g := by rw [hg]; exact Nat.ne_of_gt (blk_lt h)
theorem bb {w w1 : World} {g : Nat} {o : Obj} (h : w.heap[g]? = some o) (hb : Below w.heap.size w w1) : w1.heap[g]? = some o := blk_below h hb
theorem bc {w : World} {g : Nat} {t : TypeId} {cs : Array Value} {v : Value} (h : w.heap[g]? = some (.cells cs t (0, 0))) (i : Nat) (e : cs[i]? = some v := by rfl) : w.cell? ⟨g, i, none⟩ = some v := (blk_cell h i).trans e
theorem ns {w W : World} {gb : Nat} (hg : gb = W.heap.size) (h : Below w.heap.size w W) : w.heap.size ≤ gb := by rw [hg]; exact h.size
end Go.Proofs.Ytfbokdbaondjdaa.Cz
-- printed for this claim out of the translation
namespace Go.Proofs.Ytfbokdbaondjdaa.PV1
open Go.RowKit Go.Proofs.YtfbokdbaondjdaaW.PrintWords Go.Proofs.YtfbokdbaondjdaaW.PrintLast Go.Proofs.YtfbokdbaondjdaaW.PrintMore Go.Proofs.Ytfbokdbaondjdaa.Cz
attribute [local go_sem] max2_int min2_int max_two min_two max_three min_three max_four min_four
set_option linter.unusedVariables false
set_option linter.unusedSimpArgs false

theorem eqA89 (d : Nat) (w : World) (x0 y0 : Int) (x1 y1 : Int) :
  (Op.equalIn (d + 2) 89 (.agg #[.int .i64 x0, .int .i64 x1]) (.agg #[.int .i64 y0, .int .i64 y1])).run Try.prog w = .ok (x0 == y0 && (x1 == y1)) w := by
 refine eqA_of Try.underlying89 (by kernel_rfl) ?_
 refine eqf_cons (by rfl) (by go_simp; rfl) (by go_simp; rfl) (by go_simp) ?_
 exact eqf_last (by rfl) (by go_simp; rfl) (by go_simp; rfl) (by go_simp)
end Go.Proofs.Ytfbokdbaondjdaa.PV1
