import Derived.Test.YtfbokdbaondjdaaProg
import Derived.Test.YtfbokdbaondjdaaBFnDuties0
import Derived.Test.YtfbokdbaondjdaaBFnDuties1
import Derived.Below
import Derived.Deep.Draws
import Derived.Deep.AppendLies
import Derived.Maps.AppendAt
import Derived.OwnWalk
import Derived.Laws.BytesArg
import Derived.Laws.MakeOwn
import Derived.Laws.OwnMore
import Derived.Deep.OwnRows
import Derived.Tactics
import Derived.Lib.ConvBytes
import Derived.Laws.Slices
import Derived.WalkKit
import Derived.KernelRfl
import Derived.RowKit3
import Derived.Deep.LoopGhost
import Derived.Deep.QuietTactic
import Derived.BigQuiet
import Derived.WideLaws
import Derived.Deep.DeepCutAuto
import Derived.Deep.CutBlock
import Derived.Deep.RegionHeld3
import Derived.Laws.Rows
import Derived.Lib.AppendStr
import Derived.ArgAppend
import Derived.Laws.IdiomCopy
import Derived.OrdersHeld
import Derived.Laws.BitsLemmas
import Derived.RowKit
/- Behind of the program, HeadOn of both, in closed form, over what its parts answer. -/
namespace Go.Proofs.Ytfbokdbaondjdaa.Ai
open Go Go.RowKit Go.Proofs.YtfbokdbaondjdaaW.PrintWords Go.Proofs.YtfbokdbaondjdaaW.PrintLast Go.Proofs.YtfbokdbaondjdaaW.PrintMore Go.Proofs.Ytfbokdbaondjdaa.Rg Go.Proofs.Ytfbokdbaondjdaa.Rs
set_option linter.unusedVariables false
set_option linter.unusedSimpArgs false
set_option maxHeartbeats 8000000 in
set_option maxRecDepth 100000 in
theorem ibehind_any (a0 a1 a2 a3 a4 a5 b0 b1 b2 b3 b4 b5 x y d c q1 q2 : Int) (s1 s2 : Bool) (w : World)
    (yok1 : ∀ W : World, Calls Try.prog 17 #[.agg #[.int .i64 a0, .int .i64 a1, .int .i64 a2, .int .i64 a3, .int .i64 a4, .int .i64 a5]] W fun e w' => e = .returned (.bool s1) ∧ Below W.heap.size W w')
    (yok2 : ∀ W : World, Calls Try.prog 17 #[.agg #[.int .i64 b0, .int .i64 b1, .int .i64 b2, .int .i64 b3, .int .i64 b4, .int .i64 b5]] W fun e w' => e = .returned (.bool s2) ∧ Below W.heap.size W w')
    (ybr : ∀ W : World, Calls Try.prog 70 #[.agg #[.int .i64 a0, .int .i64 a1, .int .i64 a2, .int .i64 a3, .int .i64 a4, .int .i64 a5], .agg #[.int .i64 b0, .int .i64 b1, .int .i64 b2, .int .i64 b3, .int .i64 b4, .int .i64 b5]] W fun e w' => e = .returned (.agg #[.int .i64 x, .int .i64 y]) ∧ Below W.heap.size W w')
    (ywy : ∀ W : World, Calls Try.prog 71 #[.agg #[.int .i64 b0, .int .i64 b1, .int .i64 b2, .int .i64 b3, .int .i64 b4, .int .i64 b5]] W fun e w' => e = .returned (.agg #[.int .i64 b2, .int .i64 b3]) ∧ Below W.heap.size W w')
    (ydt : ∀ W : World, Calls Try.prog 72 #[.agg #[.int .i64 x, .int .i64 y], .agg #[.int .i64 b2, .int .i64 b3]] W fun e w' => e = .returned (.int .i64 d) ∧ Below W.heap.size W w')
    (ycr : ∀ W : World, Calls Try.prog 74 #[.agg #[.int .i64 x, .int .i64 y], .agg #[.int .i64 b2, .int .i64 b3]] W fun e w' => e = .returned (.int .i64 c) ∧ Below W.heap.size W w')
    (ysc : ∀ W : World, Calls Try.prog 73 #[.int .i64 c] W fun e w' => e = .returned (.int .u64 q1) ∧ Below W.heap.size W w')
    (ysd : ∀ W : World, Calls Try.prog 73 #[.int .i64 d] W fun e w' => e = .returned (.int .u64 q2) ∧ Below W.heap.size W w') :
    Calls Try.prog 29 #[.agg #[.int .i64 a0, .int .i64 a1, .int .i64 a2, .int .i64 a3, .int .i64 a4, .int .i64 a5], .agg #[.int .i64 b0, .int .i64 b1, .int .i64 b2, .int .i64 b3, .int .i64 b4, .int .i64 b5]] w fun e w' => e = .returned (.bool (s1 && s2 && (decide (d < 0) && decide (IntKind.u64.wrap (q1 * 5) ≤ IntKind.u64.wrap (q2 * 29))))) ∧ Below w.heap.size w w' := by
  have Hyok1 := Aside0.mk yok1
  have Hyok2 := Aside0.mk yok2
  have Hybr := Aside0.mk ybr
  have Hywy := Aside0.mk ywy
  have Hydt := Aside0.mk ydt
  have Hycr := Aside0.mk ycr
  have Hysc := Aside0.mk ysc
  have Hysd := Aside0.mk ysd
  clear yok1 yok2 ybr ywy ydt ycr ysc ysd
  go_enter Try.func29, Try.ntmps29
  go_upto_region 1 with fail
  have BA : Blk ((w.alloc (.cells #[.int .i64 a0, .int .i64 a1, .int .i64 a2, .int .i64 a3, .int .i64 a4, .int .i64 a5] 25)).alloc (.cells #[.int .i64 b0, .int .i64 b1, .int .i64 b2, .int .i64 b3, .int .i64 b4, .int .i64 b5] 25)) (w.heap.size) 25 #[.int .i64 a0, .int .i64 a1, .int .i64 a2, .int .i64 a3, .int .i64 a4, .int .i64 a5] := (Blk.new w 25 #[.int .i64 a0, .int .i64 a1, .int .i64 a2, .int .i64 a3, .int .i64 a4, .int .i64 a5]).alloc (.cells #[.int .i64 b0, .int .i64 b1, .int .i64 b2, .int .i64 b3, .int .i64 b4, .int .i64 b5] 25)
  have BB : Blk ((w.alloc (.cells #[.int .i64 a0, .int .i64 a1, .int .i64 a2, .int .i64 a3, .int .i64 a4, .int .i64 a5] 25)).alloc (.cells #[.int .i64 b0, .int .i64 b1, .int .i64 b2, .int .i64 b3, .int .i64 b4, .int .i64 b5] 25)) (w.heap.size + 1) 25 #[.int .i64 b0, .int .i64 b1, .int .i64 b2, .int .i64 b3, .int .i64 b4, .int .i64 b5] := Blk.newAt 25 #[.int .i64 b0, .int .i64 b1, .int .i64 b2, .int .i64 b3, .int .i64 b4, .int .i64 b5] (by simp)
  have hb0 : Below w.heap.size w ((w.alloc (.cells #[.int .i64 a0, .int .i64 a1, .int .i64 a2, .int .i64 a3, .int .i64 a4, .int .i64 a5] 25)).alloc (.cells #[.int .i64 b0, .int .i64 b1, .int .i64 b2, .int .i64 b3, .int .i64 b4, .int .i64 b5] 25)) := ((Below.refl w.heap.size w).alloc (by simp) (.cells #[.int .i64 a0, .int .i64 a1, .int .i64 a2, .int .i64 a3, .int .i64 a4, .int .i64 a5] 25)).alloc (by simp) (.cells #[.int .i64 b0, .int .i64 b1, .int .i64 b2, .int .i64 b3, .int .i64 b4, .int .i64 b5] 25)
  generalize ((w.alloc (.cells #[.int .i64 a0, .int .i64 a1, .int .i64 a2, .int .i64 a3, .int .i64 a4, .int .i64 a5] 25)).alloc (.cells #[.int .i64 b0, .int .i64 b1, .int .i64 b2, .int .i64 b3, .int .i64 b4, .int .i64 b5] 25)) = W0 at BA BB hb0 ⊢
  have HB := Aside0.mk hb0
  clear hb0
  obtain ⟨qBA0, qBA1, qBA2, qBA3, qBA4, qBA5⟩ := BA.six
  have zBA := BA.lt
  obtain ⟨qBB0, qBB1, qBB2, qBB3, qBB4, qBB5⟩ := BB.six
  have zBB := BB.lt
  go_wp2_with fail
  refine (Hyok1.out _).mono ?_
  rintro e w1 ⟨rfl, hb⟩
  clear qBA0 qBA1 qBA2 qBA3 qBA4 qBA5 zBA
  clear qBB0 qBB1 qBB2 qBB3 qBB4 qBB5 zBB
  replace BA := BA.below hb
  replace BB := BB.below hb
  replace HB := Aside0.mk (HB.out.trans (hb.mono HB.out.size))
  clear hb
  cases s1
  case false =>
    obtain ⟨qBA0, qBA1, qBA2, qBA3, qBA4, qBA5⟩ := BA.six
    have zBA := BA.lt
    obtain ⟨qBB0, qBB1, qBB2, qBB3, qBB4, qBB5⟩ := BB.six
    have zBB := BB.lt
    go_wp2
    go_ret
    exact ⟨rfl, HB.out⟩
  case true =>
    obtain ⟨qBA0, qBA1, qBA2, qBA3, qBA4, qBA5⟩ := BA.six
    have zBA := BA.lt
    obtain ⟨qBB0, qBB1, qBB2, qBB3, qBB4, qBB5⟩ := BB.six
    have zBB := BB.lt
    go_wp2_with fail
    refine (Hyok2.out _).mono ?_
    rintro e w2 ⟨rfl, hb⟩
    clear qBA0 qBA1 qBA2 qBA3 qBA4 qBA5 zBA
    clear qBB0 qBB1 qBB2 qBB3 qBB4 qBB5 zBB
    replace BA := BA.below hb
    replace BB := BB.below hb
    replace HB := Aside0.mk (HB.out.trans (hb.mono HB.out.size))
    clear hb
    cases s2
    case false =>
      obtain ⟨qBA0, qBA1, qBA2, qBA3, qBA4, qBA5⟩ := BA.six
      have zBA := BA.lt
      obtain ⟨qBB0, qBB1, qBB2, qBB3, qBB4, qBB5⟩ := BB.six
      have zBB := BB.lt
      go_wp2
      go_ret
      exact ⟨rfl, HB.out⟩
    case true =>
      obtain ⟨qBA0, qBA1, qBA2, qBA3, qBA4, qBA5⟩ := BA.six
      have zBA := BA.lt
      obtain ⟨qBB0, qBB1, qBB2, qBB3, qBB4, qBB5⟩ := BB.six
      have zBB := BB.lt
      go_upto_region 3 with fail
      clear qBA0 qBA1 qBA2 qBA3 qBA4 qBA5 zBA
      clear qBB0 qBB1 qBB2 qBB3 qBB4 qBB5 zBB
      replace BA := BA.drew
      replace BB := BB.drew
      refine region_sp (by kernel_rfl) [some 15, some 16, some 17, some 18, some 19, some 5, some 6, none, none] [undef, undef, undef, undef, undef, undef, undef, undef, undef] [Sp.val (fun v => v = .agg #[.int .i64 a0, .int .i64 a1, .int .i64 a2, .int .i64 a3, .int .i64 a4, .int .i64 a5]), Sp.val (fun v => v = .agg #[.int .i64 b0, .int .i64 b1, .int .i64 b2, .int .i64 b3, .int .i64 b4, .int .i64 b5]), Sp.val (fun v => v = .agg #[.int .i64 x, .int .i64 y]), Sp.val (fun v => v = .agg #[.int .i64 b0, .int .i64 b1, .int .i64 b2, .int .i64 b3, .int .i64 b4, .int .i64 b5]), Sp.val (fun v => v = .agg #[.int .i64 b2, .int .i64 b3]), Sp.new 89 #[.int .i64 0, .int .i64 0] 7 (fun cs => cs = #[.int .i64 x, .int .i64 y]), Sp.new 89 #[.int .i64 0, .int .i64 0] 8 (fun cs => cs = #[.int .i64 b2, .int .i64 b3]), Sp.put 5, Sp.put 6] (by kernel_rfl) rfl (by kernel_rfl) ⟨?_, ?_, ?_, ?_, ?_, ?_, ?_, ?_, ?_, trivial⟩ ?_
      · intro vs hl u1 hb hd
        obtain ⟨v0, v1, v2, v3, v4, v5, v6, v7, v8, rfl⟩ := len9 hl
        clear hl
        intro K hK
        obtain ⟨l0, l1, l2, l3, l4, l5⟩ := (BA.below hb).six
        simp only [fs, fo, fz, Act.put, s1, s2, s3] at hK ⊢
        refine ⟨?_⟩
        go_simp
        exact hK _ _ (Below.refl _ _) rfl
      · intro vs hl u1 hb hd
        obtain ⟨v0, v1, v2, v3, v4, v5, v6, v7, v8, rfl⟩ := len9 hl
        clear hl
        intro K hK
        obtain ⟨l0, l1, l2, l3, l4, l5⟩ := (BB.below hb).six
        simp only [fs, fo, fz, Act.put, s1, s2, s3] at hK ⊢
        refine ⟨?_⟩
        go_simp
        exact hK _ _ (Below.refl _ _) rfl
      · intro vs hl u1 hb hd
        obtain ⟨v0, v1, v2, v3, v4, v5, v6, v7, v8, rfl⟩ := len9 hl
        clear hl
        obtain ⟨kh0, kh1, _⟩ := hd
        obtain rfl : v0 = .agg #[.int .i64 a0, .int .i64 a1, .int .i64 a2, .int .i64 a3, .int .i64 a4, .int .i64 a5] := kh0
        obtain rfl : v1 = .agg #[.int .i64 b0, .int .i64 b1, .int .i64 b2, .int .i64 b3, .int .i64 b4, .int .i64 b5] := kh1
        intro K hK
        simp only [fs, fo, fz, Act.put, s1, s2, s3] at hK ⊢
        refine ⟨?_⟩
        go_simp
        refine (Hybr.out _).mono ?_
        rintro e w2 ⟨rfl, hb2⟩
        exact hK _ _ hb2 rfl
      · intro vs hl u1 hb hd
        obtain ⟨v0, v1, v2, v3, v4, v5, v6, v7, v8, rfl⟩ := len9 hl
        clear hl
        intro K hK
        obtain ⟨l0, l1, l2, l3, l4, l5⟩ := (BB.below hb).six
        simp only [fs, fo, fz, Act.put, s1, s2, s3] at hK ⊢
        refine ⟨?_⟩
        go_simp
        exact hK _ _ (Below.refl _ _) rfl
      · intro vs hl u1 hb hd
        obtain ⟨v0, v1, v2, v3, v4, v5, v6, v7, v8, rfl⟩ := len9 hl
        clear hl
        obtain ⟨kh3, kh2, _⟩ := hd
        obtain rfl : v3 = .agg #[.int .i64 b0, .int .i64 b1, .int .i64 b2, .int .i64 b3, .int .i64 b4, .int .i64 b5] := kh3
        obtain rfl : v2 = .agg #[.int .i64 x, .int .i64 y] := kh2
        intro K hK
        simp only [fs, fo, fz, Act.put, s1, s2, s3] at hK ⊢
        refine ⟨?_⟩
        go_simp
        refine (Hywy.out _).mono ?_
        rintro e w2 ⟨rfl, hb2⟩
        exact hK _ _ hb2 rfl
      · intro vs hl u1 hb hd
        obtain ⟨v0, v1, v2, v3, v4, v5, v6, v7, v8, rfl⟩ := len9 hl
        clear hl
        intro K hK
        simp only [fs, fo, fz, Act.put, s1, s2, s3] at hK ⊢
        refine ⟨?_⟩
        go_simp
        exact hK
      · intro vs hl u1 hb hd
        obtain ⟨v0, v1, v2, v3, v4, v5, v6, v7, v8, rfl⟩ := len9 hl
        clear hl
        intro K hK
        simp only [fs, fo, fz, Act.put, s1, s2, s3] at hK ⊢
        refine ⟨?_⟩
        go_simp
        exact hK
      · intro vs hl u1 hb hd
        obtain ⟨v0, v1, v2, v3, v4, v5, v6, v7, v8, rfl⟩ := len9 hl
        clear hl
        obtain ⟨kh5, kh2, kh4, kh0, kh1, _, _, kh6, _⟩ := hd
        obtain ⟨g3_5, rfl, ka5, kb5, kc5, kd5, ke5⟩ := kh5
        obtain rfl : v2 = .agg #[.int .i64 x, .int .i64 y] := kh2
        obtain rfl : v4 = .agg #[.int .i64 b2, .int .i64 b3] := kh4
        obtain rfl : v0 = .agg #[.int .i64 a0, .int .i64 a1, .int .i64 a2, .int .i64 a3, .int .i64 a4, .int .i64 a5] := kh0
        obtain rfl : v1 = .agg #[.int .i64 b0, .int .i64 b1, .int .i64 b2, .int .i64 b3, .int .i64 b4, .int .i64 b5] := kh1
        obtain ⟨g3_6, rfl, ka6, kb6, kc6, kd6, ke6⟩ := kh6
        intro g hg hcs K hK
        cases hg
        obtain ⟨l0, l1⟩ := (Blk.mk hcs).two
        have m0 := (Blk.mk hcs).free 0
        have m1 := (Blk.mk hcs).free 1
        simp only [fs, fo, fz, Act.put, s1, s2, s3] at hK ⊢
        refine ⟨?_⟩
        go_simp
        exact hK _ (filled2 hcs rfl)
      · intro vs hl u1 hb hd
        obtain ⟨v0, v1, v2, v3, v4, v5, v6, v7, v8, rfl⟩ := len9 hl
        clear hl
        obtain ⟨kh6, kh4, _, kh0, kh1, kh2, kh3, _, kh5, _, _, _⟩ := hd
        obtain ⟨g3_6, rfl, ka6, kb6, kc6, kd6, ke6⟩ := kh6
        obtain rfl : v4 = .agg #[.int .i64 b2, .int .i64 b3] := kh4
        obtain rfl : v0 = .agg #[.int .i64 a0, .int .i64 a1, .int .i64 a2, .int .i64 a3, .int .i64 a4, .int .i64 a5] := kh0
        obtain rfl : v1 = .agg #[.int .i64 b0, .int .i64 b1, .int .i64 b2, .int .i64 b3, .int .i64 b4, .int .i64 b5] := kh1
        obtain rfl : v2 = .agg #[.int .i64 x, .int .i64 y] := kh2
        obtain rfl : v3 = .agg #[.int .i64 b0, .int .i64 b1, .int .i64 b2, .int .i64 b3, .int .i64 b4, .int .i64 b5] := kh3
        obtain ⟨g3_5, rfl, ka5, kb5, kc5, kd5, ke5⟩ := kh5
        intro g hg hcs K hK
        cases hg
        obtain ⟨l0, l1⟩ := (Blk.mk hcs).two
        have m0 := (Blk.mk hcs).free 0
        have m1 := (Blk.mk hcs).free 1
        simp only [fs, fo, fz, Act.put, s1, s2, s3] at hK ⊢
        refine ⟨?_⟩
        go_simp
        exact hK _ (filled2 hcs rfl)
      · intro vs hl w3 hb hd ha
        obtain ⟨v0, v1, v2, v3, v4, v5, v6, v7, v8, rfl⟩ := len9 hl
        clear hl
        obtain ⟨kh0, kh1, kh2, kh3, kh4, kh5, kh6, kh7, kh8, _⟩ := hd
        obtain rfl : v0 = .agg #[.int .i64 a0, .int .i64 a1, .int .i64 a2, .int .i64 a3, .int .i64 a4, .int .i64 a5] := kh0
        obtain rfl : v1 = .agg #[.int .i64 b0, .int .i64 b1, .int .i64 b2, .int .i64 b3, .int .i64 b4, .int .i64 b5] := kh1
        obtain rfl : v2 = .agg #[.int .i64 x, .int .i64 y] := kh2
        obtain rfl : v3 = .agg #[.int .i64 b0, .int .i64 b1, .int .i64 b2, .int .i64 b3, .int .i64 b4, .int .i64 b5] := kh3
        obtain rfl : v4 = .agg #[.int .i64 b2, .int .i64 b3] := kh4
        obtain ⟨g3_5, rfl, ka5, kb5, kc5, kd5, ke5⟩ := kh5
        clear ke5 kd5 kc5
        obtain ⟨g3_6, rfl, ka6, kb6, kc6, kd6, ke6⟩ := kh6
        clear ke6 kd6 kc6
        obtain ⟨g_, hg_, _, _, cs_, hcs_, hq_⟩ := kh7
        cases hg_
        subst hq_
        have B5 := Blk.mk hcs_
        clear hcs_
        obtain ⟨g_, hg_, _, _, cs_, hcs_, hq_⟩ := kh8
        cases hg_
        subst hq_
        have B6 := Blk.mk hcs_
        clear hcs_
        have ne5_6 : g3_5 ≠ g3_6 := by rintro rfl; exact ha 5 6 (by decide) rfl rfl rfl
        clear ha
        simp only [fs, fo, fz, Act.put, s1, s2, s3]
        replace BA := BA.below hb
        replace BB := BB.below hb
        replace HB := Aside0.mk (HB.out.trans ((Below.trans (show Below w2.heap.size w2 w2.drew from pw_below_drewN (Below.refl _ _) 1) hb).mono HB.out.size))
        clear hb
        go_upto_region 4 with fail
        rcases hp0 : (decide (d < 0) : Bool) with _ | _
        case false =>
          replace BA := BA.drew
          replace BB := BB.drew
          replace B5 := B5.drew
          replace B6 := B6.drew
          refine region_sp (by kernel_rfl) [some 20, some 21, some 22, some 23, some 24, some 25, some 26, some 27, some 28, some 29, some 30, some 31, some 32, some 33, some 34, some 35, some 36, some 4] [undef, undef, undef, undef, undef, undef, undef, undef, undef, undef, undef, undef, undef, undef, undef, undef, undef, .bool false] [Sp.val (fun v => v = .agg #[.int .i64 x, .int .i64 y]), Sp.val (fun v => v = .agg #[.int .i64 b2, .int .i64 b3]), Sp.val (fun v => v = .int .i64 d), Sp.val (fun v => v = .bool false), Sp.val (fun v => v = .bool false), Sp.val (fun _ => True), Sp.val (fun _ => True), Sp.val (fun _ => True), Sp.val (fun _ => True), Sp.val (fun _ => True), Sp.val (fun _ => True), Sp.val (fun _ => True), Sp.val (fun _ => True), Sp.val (fun _ => True), Sp.val (fun _ => True), Sp.val (fun _ => True), Sp.val (fun v => v = .bool false), Sp.val (fun v => v = .bool false)] (by kernel_rfl) rfl (by kernel_rfl) ⟨?_, ?_, ?_, ?_, ?_, ?_, ?_, ?_, ?_, ?_, ?_, ?_, ?_, ?_, ?_, ?_, ?_, ?_, trivial⟩ ?_
          · intro vs hl u1 hb hd
            obtain ⟨v0, v1, v2, v3, v4, v5, v6, v7, v8, v9, v10, v11, v12, v13, v14, v15, v16, v17, rfl⟩ := len18 hl
            clear hl
            intro K hK
            obtain ⟨l0, l1⟩ := (B5.below hb).two
            simp only [fs, fo, fz, Act.put, s1, s2, s3] at hK ⊢
            refine ⟨?_⟩
            go_simp
            exact hK _ _ (Below.refl _ _) rfl
          · intro vs hl u1 hb hd
            obtain ⟨v0, v1, v2, v3, v4, v5, v6, v7, v8, v9, v10, v11, v12, v13, v14, v15, v16, v17, rfl⟩ := len18 hl
            clear hl
            intro K hK
            obtain ⟨l0, l1⟩ := (B6.below hb).two
            simp only [fs, fo, fz, Act.put, s1, s2, s3] at hK ⊢
            refine ⟨?_⟩
            go_simp
            exact hK _ _ (Below.refl _ _) rfl
          · intro vs hl u1 hb hd
            obtain ⟨v0, v1, v2, v3, v4, v5, v6, v7, v8, v9, v10, v11, v12, v13, v14, v15, v16, v17, rfl⟩ := len18 hl
            clear hl
            obtain ⟨kh0, kh1, _⟩ := hd
            obtain rfl : v0 = .agg #[.int .i64 x, .int .i64 y] := kh0
            obtain rfl : v1 = .agg #[.int .i64 b2, .int .i64 b3] := kh1
            intro K hK
            simp only [fs, fo, fz, Act.put, s1, s2, s3] at hK ⊢
            refine ⟨?_⟩
            go_simp
            refine (Hydt.out _).mono ?_
            rintro e w2 ⟨rfl, hb2⟩
            exact hK _ _ hb2 rfl
          · intro vs hl u1 hb hd
            obtain ⟨v0, v1, v2, v3, v4, v5, v6, v7, v8, v9, v10, v11, v12, v13, v14, v15, v16, v17, rfl⟩ := len18 hl
            clear hl
            obtain ⟨kh2, _⟩ := hd
            obtain rfl : v2 = .int .i64 d := kh2
            intro K hK
            simp only [fs, fo, fz, Act.put, s1, s2, s3] at hK ⊢
            refine ⟨?_⟩
            go_simp
            exact hK _ _ (Below.refl _ _) rfl
          · intro vs hl u1 hb hd
            obtain ⟨v0, v1, v2, v3, v4, v5, v6, v7, v8, v9, v10, v11, v12, v13, v14, v15, v16, v17, rfl⟩ := len18 hl
            clear hl
            obtain ⟨kh3, kh2, _⟩ := hd
            obtain rfl : v3 = .bool false := kh3
            obtain rfl : v2 = .int .i64 d := kh2
            intro K hK
            simp only [fs, fo, fz, Act.put, s1, s2, s3] at hK ⊢
            refine ⟨?_⟩
            go_simp
            exact hK _ _ (Below.refl _ _) rfl
          · intro vs hl u1 hb hd
            obtain ⟨v0, v1, v2, v3, v4, v5, v6, v7, v8, v9, v10, v11, v12, v13, v14, v15, v16, v17, rfl⟩ := len18 hl
            clear hl
            obtain ⟨kh4, _⟩ := hd
            obtain rfl : v4 = .bool false := kh4
            intro K hK
            simp only [fs, fo, fz, Act.put, s1, s2, s3] at hK ⊢
            refine ⟨?_⟩
            go_simp
            exact hK _ _ (Below.refl _ _) trivial
          · intro vs hl u1 hb hd
            obtain ⟨v0, v1, v2, v3, v4, v5, v6, v7, v8, v9, v10, v11, v12, v13, v14, v15, v16, v17, rfl⟩ := len18 hl
            clear hl
            obtain ⟨kh4, _⟩ := hd
            obtain rfl : v4 = .bool false := kh4
            intro K hK
            simp only [fs, fo, fz, Act.put, s1, s2, s3] at hK ⊢
            refine ⟨?_⟩
            go_simp
            exact hK _ _ (Below.refl _ _) trivial
          · intro vs hl u1 hb hd
            obtain ⟨v0, v1, v2, v3, v4, v5, v6, v7, v8, v9, v10, v11, v12, v13, v14, v15, v16, v17, rfl⟩ := len18 hl
            clear hl
            obtain ⟨_, _, kh4, _, _⟩ := hd
            obtain rfl : v4 = .bool false := kh4
            intro K hK
            simp only [fs, fo, fz, Act.put, s1, s2, s3] at hK ⊢
            refine ⟨?_⟩
            go_simp
            exact hK _ _ (Below.refl _ _) trivial
          · intro vs hl u1 hb hd
            obtain ⟨v0, v1, v2, v3, v4, v5, v6, v7, v8, v9, v10, v11, v12, v13, v14, v15, v16, v17, rfl⟩ := len18 hl
            clear hl
            obtain ⟨_, _, kh4, _⟩ := hd
            obtain rfl : v4 = .bool false := kh4
            intro K hK
            simp only [fs, fo, fz, Act.put, s1, s2, s3] at hK ⊢
            refine ⟨?_⟩
            go_simp
            exact hK _ _ (Below.refl _ _) trivial
          · intro vs hl u1 hb hd
            obtain ⟨v0, v1, v2, v3, v4, v5, v6, v7, v8, v9, v10, v11, v12, v13, v14, v15, v16, v17, rfl⟩ := len18 hl
            clear hl
            obtain ⟨_, kh4, _⟩ := hd
            obtain rfl : v4 = .bool false := kh4
            intro K hK
            simp only [fs, fo, fz, Act.put, s1, s2, s3] at hK ⊢
            refine ⟨?_⟩
            go_simp
            exact hK _ _ (Below.refl _ _) trivial
          · intro vs hl u1 hb hd
            obtain ⟨v0, v1, v2, v3, v4, v5, v6, v7, v8, v9, v10, v11, v12, v13, v14, v15, v16, v17, rfl⟩ := len18 hl
            clear hl
            obtain ⟨kh4, _⟩ := hd
            obtain rfl : v4 = .bool false := kh4
            intro K hK
            simp only [fs, fo, fz, Act.put, s1, s2, s3] at hK ⊢
            refine ⟨?_⟩
            go_simp
            exact hK _ _ (Below.refl _ _) trivial
          · intro vs hl u1 hb hd
            obtain ⟨v0, v1, v2, v3, v4, v5, v6, v7, v8, v9, v10, v11, v12, v13, v14, v15, v16, v17, rfl⟩ := len18 hl
            clear hl
            obtain ⟨kh4, _⟩ := hd
            obtain rfl : v4 = .bool false := kh4
            intro K hK
            simp only [fs, fo, fz, Act.put, s1, s2, s3] at hK ⊢
            refine ⟨?_⟩
            go_simp
            exact hK _ _ (Below.refl _ _) trivial
          · intro vs hl u1 hb hd
            obtain ⟨v0, v1, v2, v3, v4, v5, v6, v7, v8, v9, v10, v11, v12, v13, v14, v15, v16, v17, rfl⟩ := len18 hl
            clear hl
            obtain ⟨_, _, _, kh4, _⟩ := hd
            obtain rfl : v4 = .bool false := kh4
            intro K hK
            simp only [fs, fo, fz, Act.put, s1, s2, s3] at hK ⊢
            refine ⟨?_⟩
            go_simp
            exact hK _ _ (Below.refl _ _) trivial
          · intro vs hl u1 hb hd
            obtain ⟨v0, v1, v2, v3, v4, v5, v6, v7, v8, v9, v10, v11, v12, v13, v14, v15, v16, v17, rfl⟩ := len18 hl
            clear hl
            obtain ⟨_, _, kh4, _⟩ := hd
            obtain rfl : v4 = .bool false := kh4
            intro K hK
            simp only [fs, fo, fz, Act.put, s1, s2, s3] at hK ⊢
            refine ⟨?_⟩
            go_simp
            exact hK _ _ (Below.refl _ _) trivial
          · intro vs hl u1 hb hd
            obtain ⟨v0, v1, v2, v3, v4, v5, v6, v7, v8, v9, v10, v11, v12, v13, v14, v15, v16, v17, rfl⟩ := len18 hl
            clear hl
            obtain ⟨_, kh4, _⟩ := hd
            obtain rfl : v4 = .bool false := kh4
            intro K hK
            simp only [fs, fo, fz, Act.put, s1, s2, s3] at hK ⊢
            refine ⟨?_⟩
            go_simp
            exact hK _ _ (Below.refl _ _) trivial
          · intro vs hl u1 hb hd
            obtain ⟨v0, v1, v2, v3, v4, v5, v6, v7, v8, v9, v10, v11, v12, v13, v14, v15, v16, v17, rfl⟩ := len18 hl
            clear hl
            obtain ⟨_, _, kh4, _⟩ := hd
            obtain rfl : v4 = .bool false := kh4
            intro K hK
            simp only [fs, fo, fz, Act.put, s1, s2, s3] at hK ⊢
            refine ⟨?_⟩
            go_simp
            exact hK _ _ (Below.refl _ _) trivial
          · intro vs hl u1 hb hd
            obtain ⟨v0, v1, v2, v3, v4, v5, v6, v7, v8, v9, v10, v11, v12, v13, v14, v15, v16, v17, rfl⟩ := len18 hl
            clear hl
            obtain ⟨kh4, _, _⟩ := hd
            obtain rfl : v4 = .bool false := kh4
            intro K hK
            simp only [fs, fo, fz, Act.put, s1, s2, s3] at hK ⊢
            refine ⟨?_⟩
            go_simp
            exact hK _ _ (Below.refl _ _) rfl
          · intro vs hl u1 hb hd
            obtain ⟨v0, v1, v2, v3, v4, v5, v6, v7, v8, v9, v10, v11, v12, v13, v14, v15, v16, v17, rfl⟩ := len18 hl
            clear hl
            obtain ⟨kh16, _, kh0, kh1, kh2, kh3, kh4, _, _, _, _, _, _, _, _, _, _, _, _, _⟩ := hd
            obtain rfl : v16 = .bool false := kh16
            obtain rfl : v0 = .agg #[.int .i64 x, .int .i64 y] := kh0
            obtain rfl : v1 = .agg #[.int .i64 b2, .int .i64 b3] := kh1
            obtain rfl : v2 = .int .i64 d := kh2
            obtain rfl : v3 = .bool false := kh3
            obtain rfl : v4 = .bool false := kh4
            intro K hK
            simp only [fs, fo, fz, Act.put, s1, s2, s3] at hK ⊢
            refine ⟨?_⟩
            go_simp
            exact hK _ _ (Below.refl _ _) rfl
          · intro vs hl w4 hb hd ha
            obtain ⟨v0, v1, v2, v3, v4, v5, v6, v7, v8, v9, v10, v11, v12, v13, v14, v15, v16, v17, rfl⟩ := len18 hl
            clear hl
            obtain ⟨kh0, kh1, kh2, kh3, kh4, _, _, _, _, _, _, _, _, _, _, _, kh16, kh17, _⟩ := hd
            obtain rfl : v0 = .agg #[.int .i64 x, .int .i64 y] := kh0
            obtain rfl : v1 = .agg #[.int .i64 b2, .int .i64 b3] := kh1
            obtain rfl : v2 = .int .i64 d := kh2
            obtain rfl : v3 = .bool false := kh3
            obtain rfl : v4 = .bool false := kh4
            obtain rfl : v16 = .bool false := kh16
            obtain rfl : v17 = .bool false := kh17
            clear ha
            simp only [fs, fo, fz, Act.put, s1, s2, s3]
            replace BA := BA.below hb
            replace BB := BB.below hb
            replace B5 := B5.below hb
            replace B6 := B6.below hb
            replace HB := Aside0.mk (HB.out.trans ((Below.trans (show Below w3.heap.size w3 w3.drew from pw_below_drewN (Below.refl _ _) 1) hb).mono HB.out.size))
            clear hb
            go_wp2
            go_ret
            exact ⟨by first | rfl | (simp only [hp0]; rfl), HB.out⟩
        case true =>
          replace BA := BA.drew
          replace BB := BB.drew
          replace B5 := B5.drew
          replace B6 := B6.drew
          refine region_sp (by kernel_rfl) [some 20, some 21, some 22, some 23, some 24, some 25, some 26, some 27, some 28, some 29, some 30, some 31, some 32, some 33, some 34, some 35, some 36, some 4] [undef, undef, undef, undef, undef, undef, undef, undef, undef, undef, undef, undef, undef, undef, undef, undef, undef, .bool false] [Sp.val (fun v => v = .agg #[.int .i64 x, .int .i64 y]), Sp.val (fun v => v = .agg #[.int .i64 b2, .int .i64 b3]), Sp.val (fun v => v = .int .i64 d), Sp.val (fun v => v = .bool true), Sp.val (fun v => v = .bool true), Sp.val (fun v => v = .agg #[.int .i64 x, .int .i64 y]), Sp.val (fun v => v = .agg #[.int .i64 b2, .int .i64 b3]), Sp.val (fun v => v = .int .i64 c), Sp.val (fun v => v = .int .u64 q1), Sp.val (fun v => v = .int .u64 (IntKind.u64.wrap (q1 * 5))), Sp.val (fun v => v = .agg #[.int .i64 x, .int .i64 y]), Sp.val (fun v => v = .agg #[.int .i64 b2, .int .i64 b3]), Sp.val (fun v => v = .int .i64 d), Sp.val (fun v => v = .int .u64 q2), Sp.val (fun v => v = .int .u64 (IntKind.u64.wrap (q2 * 29))), Sp.val (fun v => v = .bool (decide (IntKind.u64.wrap (q1 * 5) ≤ IntKind.u64.wrap (q2 * 29)))), Sp.val (fun v => v = .bool (decide (IntKind.u64.wrap (q1 * 5) ≤ IntKind.u64.wrap (q2 * 29)))), Sp.val (fun v => v = .bool (decide (IntKind.u64.wrap (q1 * 5) ≤ IntKind.u64.wrap (q2 * 29))))] (by kernel_rfl) rfl (by kernel_rfl) ⟨?_, ?_, ?_, ?_, ?_, ?_, ?_, ?_, ?_, ?_, ?_, ?_, ?_, ?_, ?_, ?_, ?_, ?_, trivial⟩ ?_
          · intro vs hl u1 hb hd
            obtain ⟨v0, v1, v2, v3, v4, v5, v6, v7, v8, v9, v10, v11, v12, v13, v14, v15, v16, v17, rfl⟩ := len18 hl
            clear hl
            intro K hK
            obtain ⟨l0, l1⟩ := (B5.below hb).two
            simp only [fs, fo, fz, Act.put, s1, s2, s3] at hK ⊢
            refine ⟨?_⟩
            go_simp
            exact hK _ _ (Below.refl _ _) rfl
          · intro vs hl u1 hb hd
            obtain ⟨v0, v1, v2, v3, v4, v5, v6, v7, v8, v9, v10, v11, v12, v13, v14, v15, v16, v17, rfl⟩ := len18 hl
            clear hl
            intro K hK
            obtain ⟨l0, l1⟩ := (B6.below hb).two
            simp only [fs, fo, fz, Act.put, s1, s2, s3] at hK ⊢
            refine ⟨?_⟩
            go_simp
            exact hK _ _ (Below.refl _ _) rfl
          · intro vs hl u1 hb hd
            obtain ⟨v0, v1, v2, v3, v4, v5, v6, v7, v8, v9, v10, v11, v12, v13, v14, v15, v16, v17, rfl⟩ := len18 hl
            clear hl
            obtain ⟨kh0, kh1, _⟩ := hd
            obtain rfl : v0 = .agg #[.int .i64 x, .int .i64 y] := kh0
            obtain rfl : v1 = .agg #[.int .i64 b2, .int .i64 b3] := kh1
            intro K hK
            simp only [fs, fo, fz, Act.put, s1, s2, s3] at hK ⊢
            refine ⟨?_⟩
            go_simp
            refine (Hydt.out _).mono ?_
            rintro e w2 ⟨rfl, hb2⟩
            exact hK _ _ hb2 rfl
          · intro vs hl u1 hb hd
            obtain ⟨v0, v1, v2, v3, v4, v5, v6, v7, v8, v9, v10, v11, v12, v13, v14, v15, v16, v17, rfl⟩ := len18 hl
            clear hl
            obtain ⟨kh2, _⟩ := hd
            obtain rfl : v2 = .int .i64 d := kh2
            intro K hK
            simp only [fs, fo, fz, Act.put, s1, s2, s3] at hK ⊢
            refine ⟨?_⟩
            go_simp
            exact hK _ _ (Below.refl _ _) rfl
          · intro vs hl u1 hb hd
            obtain ⟨v0, v1, v2, v3, v4, v5, v6, v7, v8, v9, v10, v11, v12, v13, v14, v15, v16, v17, rfl⟩ := len18 hl
            clear hl
            obtain ⟨kh3, kh2, _⟩ := hd
            obtain rfl : v3 = .bool true := kh3
            obtain rfl : v2 = .int .i64 d := kh2
            intro K hK
            simp only [fs, fo, fz, Act.put, s1, s2, s3] at hK ⊢
            refine ⟨?_⟩
            go_simp
            exact hK _ _ (Below.refl _ _) rfl
          · intro vs hl u1 hb hd
            obtain ⟨v0, v1, v2, v3, v4, v5, v6, v7, v8, v9, v10, v11, v12, v13, v14, v15, v16, v17, rfl⟩ := len18 hl
            clear hl
            obtain ⟨kh4, _⟩ := hd
            obtain rfl : v4 = .bool true := kh4
            intro K hK
            obtain ⟨l0, l1⟩ := (B5.below hb).two
            simp only [fs, fo, fz, Act.put, s1, s2, s3] at hK ⊢
            refine ⟨?_⟩
            go_simp
            exact hK _ _ (Below.refl _ _) rfl
          · intro vs hl u1 hb hd
            obtain ⟨v0, v1, v2, v3, v4, v5, v6, v7, v8, v9, v10, v11, v12, v13, v14, v15, v16, v17, rfl⟩ := len18 hl
            clear hl
            obtain ⟨kh4, _⟩ := hd
            obtain rfl : v4 = .bool true := kh4
            intro K hK
            obtain ⟨l0, l1⟩ := (B6.below hb).two
            simp only [fs, fo, fz, Act.put, s1, s2, s3] at hK ⊢
            refine ⟨?_⟩
            go_simp
            exact hK _ _ (Below.refl _ _) rfl
          · intro vs hl u1 hb hd
            obtain ⟨v0, v1, v2, v3, v4, v5, v6, v7, v8, v9, v10, v11, v12, v13, v14, v15, v16, v17, rfl⟩ := len18 hl
            clear hl
            obtain ⟨kh5, kh6, kh4, _, _⟩ := hd
            obtain rfl : v5 = .agg #[.int .i64 x, .int .i64 y] := kh5
            obtain rfl : v6 = .agg #[.int .i64 b2, .int .i64 b3] := kh6
            obtain rfl : v4 = .bool true := kh4
            intro K hK
            simp only [fs, fo, fz, Act.put, s1, s2, s3] at hK ⊢
            refine ⟨?_⟩
            go_simp
            refine (Hycr.out _).mono ?_
            rintro e w2 ⟨rfl, hb2⟩
            exact hK _ _ hb2 rfl
          · intro vs hl u1 hb hd
            obtain ⟨v0, v1, v2, v3, v4, v5, v6, v7, v8, v9, v10, v11, v12, v13, v14, v15, v16, v17, rfl⟩ := len18 hl
            clear hl
            obtain ⟨kh7, _, kh4, _⟩ := hd
            obtain rfl : v7 = .int .i64 c := kh7
            obtain rfl : v4 = .bool true := kh4
            intro K hK
            simp only [fs, fo, fz, Act.put, s1, s2, s3] at hK ⊢
            refine ⟨?_⟩
            go_simp
            refine (Hysc.out _).mono ?_
            rintro e w2 ⟨rfl, hb2⟩
            exact hK _ _ hb2 rfl
          · intro vs hl u1 hb hd
            obtain ⟨v0, v1, v2, v3, v4, v5, v6, v7, v8, v9, v10, v11, v12, v13, v14, v15, v16, v17, rfl⟩ := len18 hl
            clear hl
            obtain ⟨kh8, kh4, _⟩ := hd
            obtain rfl : v8 = .int .u64 q1 := kh8
            obtain rfl : v4 = .bool true := kh4
            intro K hK
            simp only [fs, fo, fz, Act.put, s1, s2, s3] at hK ⊢
            refine ⟨?_⟩
            go_simp
            exact hK _ _ (Below.refl _ _) rfl
          · intro vs hl u1 hb hd
            obtain ⟨v0, v1, v2, v3, v4, v5, v6, v7, v8, v9, v10, v11, v12, v13, v14, v15, v16, v17, rfl⟩ := len18 hl
            clear hl
            obtain ⟨kh4, _⟩ := hd
            obtain rfl : v4 = .bool true := kh4
            intro K hK
            obtain ⟨l0, l1⟩ := (B5.below hb).two
            simp only [fs, fo, fz, Act.put, s1, s2, s3] at hK ⊢
            refine ⟨?_⟩
            go_simp
            exact hK _ _ (Below.refl _ _) rfl
          · intro vs hl u1 hb hd
            obtain ⟨v0, v1, v2, v3, v4, v5, v6, v7, v8, v9, v10, v11, v12, v13, v14, v15, v16, v17, rfl⟩ := len18 hl
            clear hl
            obtain ⟨kh4, _⟩ := hd
            obtain rfl : v4 = .bool true := kh4
            intro K hK
            obtain ⟨l0, l1⟩ := (B6.below hb).two
            simp only [fs, fo, fz, Act.put, s1, s2, s3] at hK ⊢
            refine ⟨?_⟩
            go_simp
            exact hK _ _ (Below.refl _ _) rfl
          · intro vs hl u1 hb hd
            obtain ⟨v0, v1, v2, v3, v4, v5, v6, v7, v8, v9, v10, v11, v12, v13, v14, v15, v16, v17, rfl⟩ := len18 hl
            clear hl
            obtain ⟨kh10, kh11, kh8, kh4, _⟩ := hd
            obtain rfl : v10 = .agg #[.int .i64 x, .int .i64 y] := kh10
            obtain rfl : v11 = .agg #[.int .i64 b2, .int .i64 b3] := kh11
            obtain rfl : v8 = .int .u64 q1 := kh8
            obtain rfl : v4 = .bool true := kh4
            intro K hK
            simp only [fs, fo, fz, Act.put, s1, s2, s3] at hK ⊢
            refine ⟨?_⟩
            go_simp
            refine (Hydt.out _).mono ?_
            rintro e w2 ⟨rfl, hb2⟩
            exact hK _ _ hb2 rfl
          · intro vs hl u1 hb hd
            obtain ⟨v0, v1, v2, v3, v4, v5, v6, v7, v8, v9, v10, v11, v12, v13, v14, v15, v16, v17, rfl⟩ := len18 hl
            clear hl
            obtain ⟨kh12, _, kh4, _⟩ := hd
            obtain rfl : v12 = .int .i64 d := kh12
            obtain rfl : v4 = .bool true := kh4
            intro K hK
            simp only [fs, fo, fz, Act.put, s1, s2, s3] at hK ⊢
            refine ⟨?_⟩
            go_simp
            refine (Hysd.out _).mono ?_
            rintro e w2 ⟨rfl, hb2⟩
            exact hK _ _ hb2 rfl
          · intro vs hl u1 hb hd
            obtain ⟨v0, v1, v2, v3, v4, v5, v6, v7, v8, v9, v10, v11, v12, v13, v14, v15, v16, v17, rfl⟩ := len18 hl
            clear hl
            obtain ⟨kh13, kh4, _⟩ := hd
            obtain rfl : v13 = .int .u64 q2 := kh13
            obtain rfl : v4 = .bool true := kh4
            intro K hK
            simp only [fs, fo, fz, Act.put, s1, s2, s3] at hK ⊢
            refine ⟨?_⟩
            go_simp
            exact hK _ _ (Below.refl _ _) rfl
          · intro vs hl u1 hb hd
            obtain ⟨v0, v1, v2, v3, v4, v5, v6, v7, v8, v9, v10, v11, v12, v13, v14, v15, v16, v17, rfl⟩ := len18 hl
            clear hl
            obtain ⟨kh9, kh14, kh4, _⟩ := hd
            obtain rfl : v9 = .int .u64 (IntKind.u64.wrap (q1 * 5)) := kh9
            obtain rfl : v14 = .int .u64 (IntKind.u64.wrap (q2 * 29)) := kh14
            obtain rfl : v4 = .bool true := kh4
            intro K hK
            simp only [fs, fo, fz, Act.put, s1, s2, s3] at hK ⊢
            refine ⟨?_⟩
            go_simp
            exact hK _ _ (Below.refl _ _) rfl
          · intro vs hl u1 hb hd
            obtain ⟨v0, v1, v2, v3, v4, v5, v6, v7, v8, v9, v10, v11, v12, v13, v14, v15, v16, v17, rfl⟩ := len18 hl
            clear hl
            obtain ⟨kh4, kh15, _⟩ := hd
            obtain rfl : v4 = .bool true := kh4
            obtain rfl : v15 = .bool (decide (IntKind.u64.wrap (q1 * 5) ≤ IntKind.u64.wrap (q2 * 29))) := kh15
            intro K hK
            simp only [fs, fo, fz, Act.put, s1, s2, s3] at hK ⊢
            refine ⟨?_⟩
            go_simp
            exact hK _ _ (Below.refl _ _) rfl
          · intro vs hl u1 hb hd
            obtain ⟨v0, v1, v2, v3, v4, v5, v6, v7, v8, v9, v10, v11, v12, v13, v14, v15, v16, v17, rfl⟩ := len18 hl
            clear hl
            obtain ⟨kh16, kh13, kh0, kh1, kh2, kh3, kh4, kh5, kh6, kh7, kh8, kh9, kh10, kh11, kh12, _, kh14, kh15, _, _⟩ := hd
            obtain rfl : v16 = .bool (decide (IntKind.u64.wrap (q1 * 5) ≤ IntKind.u64.wrap (q2 * 29))) := kh16
            obtain rfl : v13 = .int .u64 q2 := kh13
            obtain rfl : v0 = .agg #[.int .i64 x, .int .i64 y] := kh0
            obtain rfl : v1 = .agg #[.int .i64 b2, .int .i64 b3] := kh1
            obtain rfl : v2 = .int .i64 d := kh2
            obtain rfl : v3 = .bool true := kh3
            obtain rfl : v4 = .bool true := kh4
            obtain rfl : v5 = .agg #[.int .i64 x, .int .i64 y] := kh5
            obtain rfl : v6 = .agg #[.int .i64 b2, .int .i64 b3] := kh6
            obtain rfl : v7 = .int .i64 c := kh7
            obtain rfl : v8 = .int .u64 q1 := kh8
            obtain rfl : v9 = .int .u64 (IntKind.u64.wrap (q1 * 5)) := kh9
            obtain rfl : v10 = .agg #[.int .i64 x, .int .i64 y] := kh10
            obtain rfl : v11 = .agg #[.int .i64 b2, .int .i64 b3] := kh11
            obtain rfl : v12 = .int .i64 d := kh12
            obtain rfl : v14 = .int .u64 (IntKind.u64.wrap (q2 * 29)) := kh14
            obtain rfl : v15 = .bool (decide (IntKind.u64.wrap (q1 * 5) ≤ IntKind.u64.wrap (q2 * 29))) := kh15
            intro K hK
            simp only [fs, fo, fz, Act.put, s1, s2, s3] at hK ⊢
            refine ⟨?_⟩
            go_simp
            exact hK _ _ (Below.refl _ _) rfl
          · intro vs hl w4 hb hd ha
            obtain ⟨v0, v1, v2, v3, v4, v5, v6, v7, v8, v9, v10, v11, v12, v13, v14, v15, v16, v17, rfl⟩ := len18 hl
            clear hl
            obtain ⟨kh0, kh1, kh2, kh3, kh4, kh5, kh6, kh7, kh8, kh9, kh10, kh11, kh12, kh13, kh14, kh15, kh16, kh17, _⟩ := hd
            obtain rfl : v0 = .agg #[.int .i64 x, .int .i64 y] := kh0
            obtain rfl : v1 = .agg #[.int .i64 b2, .int .i64 b3] := kh1
            obtain rfl : v2 = .int .i64 d := kh2
            obtain rfl : v3 = .bool true := kh3
            obtain rfl : v4 = .bool true := kh4
            obtain rfl : v5 = .agg #[.int .i64 x, .int .i64 y] := kh5
            obtain rfl : v6 = .agg #[.int .i64 b2, .int .i64 b3] := kh6
            obtain rfl : v7 = .int .i64 c := kh7
            obtain rfl : v8 = .int .u64 q1 := kh8
            obtain rfl : v9 = .int .u64 (IntKind.u64.wrap (q1 * 5)) := kh9
            obtain rfl : v10 = .agg #[.int .i64 x, .int .i64 y] := kh10
            obtain rfl : v11 = .agg #[.int .i64 b2, .int .i64 b3] := kh11
            obtain rfl : v12 = .int .i64 d := kh12
            obtain rfl : v13 = .int .u64 q2 := kh13
            obtain rfl : v14 = .int .u64 (IntKind.u64.wrap (q2 * 29)) := kh14
            obtain rfl : v15 = .bool (decide (IntKind.u64.wrap (q1 * 5) ≤ IntKind.u64.wrap (q2 * 29))) := kh15
            obtain rfl : v16 = .bool (decide (IntKind.u64.wrap (q1 * 5) ≤ IntKind.u64.wrap (q2 * 29))) := kh16
            obtain rfl : v17 = .bool (decide (IntKind.u64.wrap (q1 * 5) ≤ IntKind.u64.wrap (q2 * 29))) := kh17
            clear ha
            simp only [fs, fo, fz, Act.put, s1, s2, s3]
            replace BA := BA.below hb
            replace BB := BB.below hb
            replace B5 := B5.below hb
            replace B6 := B6.below hb
            replace HB := Aside0.mk (HB.out.trans ((Below.trans (show Below w3.heap.size w3 w3.drew from pw_below_drewN (Below.refl _ _) 1) hb).mono HB.out.size))
            clear hb
            go_wp2
            go_ret
            exact ⟨by first | rfl | (simp only [hp0]; rfl), HB.out⟩

set_option maxHeartbeats 8000000 in
set_option maxRecDepth 100000 in
theorem iheadon_any (a0 a1 a2 a3 a4 a5 b0 b1 b2 b3 b4 b5 d c q1 q2 m1 m2 n1 n2 : Int) (s1 s2 h1 h2 : Bool) (w : World)
    (yok1 : ∀ W : World, Calls Try.prog 17 #[.agg #[.int .i64 a0, .int .i64 a1, .int .i64 a2, .int .i64 a3, .int .i64 a4, .int .i64 a5]] W fun e w' => e = .returned (.bool s1) ∧ Below W.heap.size W w')
    (yok2 : ∀ W : World, Calls Try.prog 17 #[.agg #[.int .i64 b0, .int .i64 b1, .int .i64 b2, .int .i64 b3, .int .i64 b4, .int .i64 b5]] W fun e w' => e = .returned (.bool s2) ∧ Below W.heap.size W w')
    (ywa : ∀ W : World, Calls Try.prog 71 #[.agg #[.int .i64 a0, .int .i64 a1, .int .i64 a2, .int .i64 a3, .int .i64 a4, .int .i64 a5]] W fun e w' => e = .returned (.agg #[.int .i64 a2, .int .i64 a3]) ∧ Below W.heap.size W w')
    (ywb : ∀ W : World, Calls Try.prog 71 #[.agg #[.int .i64 b0, .int .i64 b1, .int .i64 b2, .int .i64 b3, .int .i64 b4, .int .i64 b5]] W fun e w' => e = .returned (.agg #[.int .i64 b2, .int .i64 b3]) ∧ Below W.heap.size W w')
    (ydt : ∀ W : World, Calls Try.prog 72 #[.agg #[.int .i64 a2, .int .i64 a3], .agg #[.int .i64 b2, .int .i64 b3]] W fun e w' => e = .returned (.int .i64 d) ∧ Below W.heap.size W w')
    (ycr : ∀ W : World, Calls Try.prog 74 #[.agg #[.int .i64 a2, .int .i64 a3], .agg #[.int .i64 b2, .int .i64 b3]] W fun e w' => e = .returned (.int .i64 c) ∧ Below W.heap.size W w')
    (ysc : ∀ W : World, Calls Try.prog 73 #[.int .i64 c] W fun e w' => e = .returned (.int .u64 q1) ∧ Below W.heap.size W w')
    (ysd : ∀ W : World, Calls Try.prog 73 #[.int .i64 d] W fun e w' => e = .returned (.int .u64 q2) ∧ Below W.heap.size W w')
    (yb1 : ∀ W : World, Calls Try.prog 70 #[.agg #[.int .i64 b0, .int .i64 b1, .int .i64 b2, .int .i64 b3, .int .i64 b4, .int .i64 b5], .agg #[.int .i64 a0, .int .i64 a1, .int .i64 a2, .int .i64 a3, .int .i64 a4, .int .i64 a5]] W fun e w' => e = .returned (.agg #[.int .i64 m1, .int .i64 m2]) ∧ Below W.heap.size W w')
    (yh1 : ∀ W : World, Calls Try.prog 76 #[.agg #[.int .i64 m1, .int .i64 m2], .agg #[.int .i64 a2, .int .i64 a3]] W fun e w' => e = .returned (.bool h1) ∧ Below W.heap.size W w')
    (yb2 : ∀ W : World, Calls Try.prog 70 #[.agg #[.int .i64 a0, .int .i64 a1, .int .i64 a2, .int .i64 a3, .int .i64 a4, .int .i64 a5], .agg #[.int .i64 b0, .int .i64 b1, .int .i64 b2, .int .i64 b3, .int .i64 b4, .int .i64 b5]] W fun e w' => e = .returned (.agg #[.int .i64 n1, .int .i64 n2]) ∧ Below W.heap.size W w')
    (yh2 : ∀ W : World, Calls Try.prog 76 #[.agg #[.int .i64 n1, .int .i64 n2], .agg #[.int .i64 b2, .int .i64 b3]] W fun e w' => e = .returned (.bool h2) ∧ Below W.heap.size W w') :
    Calls Try.prog 31 #[.agg #[.int .i64 a0, .int .i64 a1, .int .i64 a2, .int .i64 a3, .int .i64 a4, .int .i64 a5], .agg #[.int .i64 b0, .int .i64 b1, .int .i64 b2, .int .i64 b3, .int .i64 b4, .int .i64 b5]] w fun e w' => e = .returned (.bool (s1 && s2 && (decide (d < 0) && decide (IntKind.u64.wrap (q1 * 100) ≤ q2) && h1 && h2))) ∧ Below w.heap.size w w' := by
  have Hyok1 := Aside0.mk yok1
  have Hyok2 := Aside0.mk yok2
  have Hywa := Aside0.mk ywa
  have Hywb := Aside0.mk ywb
  have Hydt := Aside0.mk ydt
  have Hycr := Aside0.mk ycr
  have Hysc := Aside0.mk ysc
  have Hysd := Aside0.mk ysd
  have Hyb1 := Aside0.mk yb1
  have Hyh1 := Aside0.mk yh1
  have Hyb2 := Aside0.mk yb2
  have Hyh2 := Aside0.mk yh2
  clear yok1 yok2 ywa ywb ydt ycr ysc ysd yb1 yh1 yb2 yh2
  go_enter Try.func31, Try.ntmps31
  go_upto_region 1 with fail
  have BA : Blk ((w.alloc (.cells #[.int .i64 a0, .int .i64 a1, .int .i64 a2, .int .i64 a3, .int .i64 a4, .int .i64 a5] 25)).alloc (.cells #[.int .i64 b0, .int .i64 b1, .int .i64 b2, .int .i64 b3, .int .i64 b4, .int .i64 b5] 25)) (w.heap.size) 25 #[.int .i64 a0, .int .i64 a1, .int .i64 a2, .int .i64 a3, .int .i64 a4, .int .i64 a5] := (Blk.new w 25 #[.int .i64 a0, .int .i64 a1, .int .i64 a2, .int .i64 a3, .int .i64 a4, .int .i64 a5]).alloc (.cells #[.int .i64 b0, .int .i64 b1, .int .i64 b2, .int .i64 b3, .int .i64 b4, .int .i64 b5] 25)
  have BB : Blk ((w.alloc (.cells #[.int .i64 a0, .int .i64 a1, .int .i64 a2, .int .i64 a3, .int .i64 a4, .int .i64 a5] 25)).alloc (.cells #[.int .i64 b0, .int .i64 b1, .int .i64 b2, .int .i64 b3, .int .i64 b4, .int .i64 b5] 25)) (w.heap.size + 1) 25 #[.int .i64 b0, .int .i64 b1, .int .i64 b2, .int .i64 b3, .int .i64 b4, .int .i64 b5] := Blk.newAt 25 #[.int .i64 b0, .int .i64 b1, .int .i64 b2, .int .i64 b3, .int .i64 b4, .int .i64 b5] (by simp)
  have hb0 : Below w.heap.size w ((w.alloc (.cells #[.int .i64 a0, .int .i64 a1, .int .i64 a2, .int .i64 a3, .int .i64 a4, .int .i64 a5] 25)).alloc (.cells #[.int .i64 b0, .int .i64 b1, .int .i64 b2, .int .i64 b3, .int .i64 b4, .int .i64 b5] 25)) := ((Below.refl w.heap.size w).alloc (by simp) (.cells #[.int .i64 a0, .int .i64 a1, .int .i64 a2, .int .i64 a3, .int .i64 a4, .int .i64 a5] 25)).alloc (by simp) (.cells #[.int .i64 b0, .int .i64 b1, .int .i64 b2, .int .i64 b3, .int .i64 b4, .int .i64 b5] 25)
  generalize ((w.alloc (.cells #[.int .i64 a0, .int .i64 a1, .int .i64 a2, .int .i64 a3, .int .i64 a4, .int .i64 a5] 25)).alloc (.cells #[.int .i64 b0, .int .i64 b1, .int .i64 b2, .int .i64 b3, .int .i64 b4, .int .i64 b5] 25)) = W0 at BA BB hb0 ⊢
  have HB := Aside0.mk hb0
  clear hb0
  obtain ⟨qBA0, qBA1, qBA2, qBA3, qBA4, qBA5⟩ := BA.six
  have zBA := BA.lt
  obtain ⟨qBB0, qBB1, qBB2, qBB3, qBB4, qBB5⟩ := BB.six
  have zBB := BB.lt
  go_wp2_with fail
  refine (Hyok1.out _).mono ?_
  rintro e w1 ⟨rfl, hb⟩
  clear qBA0 qBA1 qBA2 qBA3 qBA4 qBA5 zBA
  clear qBB0 qBB1 qBB2 qBB3 qBB4 qBB5 zBB
  replace BA := BA.below hb
  replace BB := BB.below hb
  replace HB := Aside0.mk (HB.out.trans (hb.mono HB.out.size))
  clear hb
  cases s1
  case false =>
    obtain ⟨qBA0, qBA1, qBA2, qBA3, qBA4, qBA5⟩ := BA.six
    have zBA := BA.lt
    obtain ⟨qBB0, qBB1, qBB2, qBB3, qBB4, qBB5⟩ := BB.six
    have zBB := BB.lt
    go_wp2
    go_ret
    exact ⟨rfl, HB.out⟩
  case true =>
    obtain ⟨qBA0, qBA1, qBA2, qBA3, qBA4, qBA5⟩ := BA.six
    have zBA := BA.lt
    obtain ⟨qBB0, qBB1, qBB2, qBB3, qBB4, qBB5⟩ := BB.six
    have zBB := BB.lt
    go_wp2_with fail
    refine (Hyok2.out _).mono ?_
    rintro e w2 ⟨rfl, hb⟩
    clear qBA0 qBA1 qBA2 qBA3 qBA4 qBA5 zBA
    clear qBB0 qBB1 qBB2 qBB3 qBB4 qBB5 zBB
    replace BA := BA.below hb
    replace BB := BB.below hb
    replace HB := Aside0.mk (HB.out.trans (hb.mono HB.out.size))
    clear hb
    cases s2
    case false =>
      obtain ⟨qBA0, qBA1, qBA2, qBA3, qBA4, qBA5⟩ := BA.six
      have zBA := BA.lt
      obtain ⟨qBB0, qBB1, qBB2, qBB3, qBB4, qBB5⟩ := BB.six
      have zBB := BB.lt
      go_wp2
      go_ret
      exact ⟨rfl, HB.out⟩
    case true =>
      obtain ⟨qBA0, qBA1, qBA2, qBA3, qBA4, qBA5⟩ := BA.six
      have zBA := BA.lt
      obtain ⟨qBB0, qBB1, qBB2, qBB3, qBB4, qBB5⟩ := BB.six
      have zBB := BB.lt
      go_upto_region 3 with fail
      clear qBA0 qBA1 qBA2 qBA3 qBA4 qBA5 zBA
      clear qBB0 qBB1 qBB2 qBB3 qBB4 qBB5 zBB
      replace BA := BA.drew
      replace BB := BB.drew
      refine region_sp (by kernel_rfl) [some 15, some 16, some 17, some 18, some 5, some 6, none, none] [undef, undef, undef, undef, undef, undef, undef, undef] [Sp.val (fun v => v = .agg #[.int .i64 a0, .int .i64 a1, .int .i64 a2, .int .i64 a3, .int .i64 a4, .int .i64 a5]), Sp.val (fun v => v = .agg #[.int .i64 a2, .int .i64 a3]), Sp.val (fun v => v = .agg #[.int .i64 b0, .int .i64 b1, .int .i64 b2, .int .i64 b3, .int .i64 b4, .int .i64 b5]), Sp.val (fun v => v = .agg #[.int .i64 b2, .int .i64 b3]), Sp.new 89 #[.int .i64 0, .int .i64 0] 6 (fun cs => cs = #[.int .i64 a2, .int .i64 a3]), Sp.new 89 #[.int .i64 0, .int .i64 0] 7 (fun cs => cs = #[.int .i64 b2, .int .i64 b3]), Sp.put 4, Sp.put 5] (by kernel_rfl) rfl (by kernel_rfl) ⟨?_, ?_, ?_, ?_, ?_, ?_, ?_, ?_, trivial⟩ ?_
      · intro vs hl u1 hb hd
        obtain ⟨v0, v1, v2, v3, v4, v5, v6, v7, rfl⟩ := len8 hl
        clear hl
        intro K hK
        obtain ⟨l0, l1, l2, l3, l4, l5⟩ := (BA.below hb).six
        simp only [fs, fo, fz, Act.put, s1, s2, s3] at hK ⊢
        refine ⟨?_⟩
        go_simp
        exact hK _ _ (Below.refl _ _) rfl
      · intro vs hl u1 hb hd
        obtain ⟨v0, v1, v2, v3, v4, v5, v6, v7, rfl⟩ := len8 hl
        clear hl
        obtain ⟨kh0, _⟩ := hd
        obtain rfl : v0 = .agg #[.int .i64 a0, .int .i64 a1, .int .i64 a2, .int .i64 a3, .int .i64 a4, .int .i64 a5] := kh0
        intro K hK
        simp only [fs, fo, fz, Act.put, s1, s2, s3] at hK ⊢
        refine ⟨?_⟩
        go_simp
        refine (Hywa.out _).mono ?_
        rintro e w2 ⟨rfl, hb2⟩
        exact hK _ _ hb2 rfl
      · intro vs hl u1 hb hd
        obtain ⟨v0, v1, v2, v3, v4, v5, v6, v7, rfl⟩ := len8 hl
        clear hl
        intro K hK
        obtain ⟨l0, l1, l2, l3, l4, l5⟩ := (BB.below hb).six
        simp only [fs, fo, fz, Act.put, s1, s2, s3] at hK ⊢
        refine ⟨?_⟩
        go_simp
        exact hK _ _ (Below.refl _ _) rfl
      · intro vs hl u1 hb hd
        obtain ⟨v0, v1, v2, v3, v4, v5, v6, v7, rfl⟩ := len8 hl
        clear hl
        obtain ⟨kh2, kh1, _⟩ := hd
        obtain rfl : v2 = .agg #[.int .i64 b0, .int .i64 b1, .int .i64 b2, .int .i64 b3, .int .i64 b4, .int .i64 b5] := kh2
        obtain rfl : v1 = .agg #[.int .i64 a2, .int .i64 a3] := kh1
        intro K hK
        simp only [fs, fo, fz, Act.put, s1, s2, s3] at hK ⊢
        refine ⟨?_⟩
        go_simp
        refine (Hywb.out _).mono ?_
        rintro e w2 ⟨rfl, hb2⟩
        exact hK _ _ hb2 rfl
      · intro vs hl u1 hb hd
        obtain ⟨v0, v1, v2, v3, v4, v5, v6, v7, rfl⟩ := len8 hl
        clear hl
        intro K hK
        simp only [fs, fo, fz, Act.put, s1, s2, s3] at hK ⊢
        refine ⟨?_⟩
        go_simp
        exact hK
      · intro vs hl u1 hb hd
        obtain ⟨v0, v1, v2, v3, v4, v5, v6, v7, rfl⟩ := len8 hl
        clear hl
        intro K hK
        simp only [fs, fo, fz, Act.put, s1, s2, s3] at hK ⊢
        refine ⟨?_⟩
        go_simp
        exact hK
      · intro vs hl u1 hb hd
        obtain ⟨v0, v1, v2, v3, v4, v5, v6, v7, rfl⟩ := len8 hl
        clear hl
        obtain ⟨kh4, kh1, kh3, kh0, _, _, kh5, _⟩ := hd
        obtain ⟨g3_4, rfl, ka4, kb4, kc4, kd4, ke4⟩ := kh4
        obtain rfl : v1 = .agg #[.int .i64 a2, .int .i64 a3] := kh1
        obtain rfl : v3 = .agg #[.int .i64 b2, .int .i64 b3] := kh3
        obtain rfl : v0 = .agg #[.int .i64 a0, .int .i64 a1, .int .i64 a2, .int .i64 a3, .int .i64 a4, .int .i64 a5] := kh0
        obtain ⟨g3_5, rfl, ka5, kb5, kc5, kd5, ke5⟩ := kh5
        intro g hg hcs K hK
        cases hg
        obtain ⟨l0, l1⟩ := (Blk.mk hcs).two
        have m0 := (Blk.mk hcs).free 0
        have m1 := (Blk.mk hcs).free 1
        simp only [fs, fo, fz, Act.put, s1, s2, s3] at hK ⊢
        refine ⟨?_⟩
        go_simp
        exact hK _ (filled2 hcs rfl)
      · intro vs hl u1 hb hd
        obtain ⟨v0, v1, v2, v3, v4, v5, v6, v7, rfl⟩ := len8 hl
        clear hl
        obtain ⟨kh5, kh3, _, kh0, kh1, kh2, _, kh4, _, _, _⟩ := hd
        obtain ⟨g3_5, rfl, ka5, kb5, kc5, kd5, ke5⟩ := kh5
        obtain rfl : v3 = .agg #[.int .i64 b2, .int .i64 b3] := kh3
        obtain rfl : v0 = .agg #[.int .i64 a0, .int .i64 a1, .int .i64 a2, .int .i64 a3, .int .i64 a4, .int .i64 a5] := kh0
        obtain rfl : v1 = .agg #[.int .i64 a2, .int .i64 a3] := kh1
        obtain rfl : v2 = .agg #[.int .i64 b0, .int .i64 b1, .int .i64 b2, .int .i64 b3, .int .i64 b4, .int .i64 b5] := kh2
        obtain ⟨g3_4, rfl, ka4, kb4, kc4, kd4, ke4⟩ := kh4
        intro g hg hcs K hK
        cases hg
        obtain ⟨l0, l1⟩ := (Blk.mk hcs).two
        have m0 := (Blk.mk hcs).free 0
        have m1 := (Blk.mk hcs).free 1
        simp only [fs, fo, fz, Act.put, s1, s2, s3] at hK ⊢
        refine ⟨?_⟩
        go_simp
        exact hK _ (filled2 hcs rfl)
      · intro vs hl w3 hb hd ha
        obtain ⟨v0, v1, v2, v3, v4, v5, v6, v7, rfl⟩ := len8 hl
        clear hl
        obtain ⟨kh0, kh1, kh2, kh3, kh4, kh5, kh6, kh7, _⟩ := hd
        obtain rfl : v0 = .agg #[.int .i64 a0, .int .i64 a1, .int .i64 a2, .int .i64 a3, .int .i64 a4, .int .i64 a5] := kh0
        obtain rfl : v1 = .agg #[.int .i64 a2, .int .i64 a3] := kh1
        obtain rfl : v2 = .agg #[.int .i64 b0, .int .i64 b1, .int .i64 b2, .int .i64 b3, .int .i64 b4, .int .i64 b5] := kh2
        obtain rfl : v3 = .agg #[.int .i64 b2, .int .i64 b3] := kh3
        obtain ⟨g3_4, rfl, ka4, kb4, kc4, kd4, ke4⟩ := kh4
        clear ke4 kd4 kc4
        obtain ⟨g3_5, rfl, ka5, kb5, kc5, kd5, ke5⟩ := kh5
        clear ke5 kd5 kc5
        obtain ⟨g_, hg_, _, _, cs_, hcs_, hq_⟩ := kh6
        cases hg_
        subst hq_
        have B4 := Blk.mk hcs_
        clear hcs_
        obtain ⟨g_, hg_, _, _, cs_, hcs_, hq_⟩ := kh7
        cases hg_
        subst hq_
        have B5 := Blk.mk hcs_
        clear hcs_
        have ne4_5 : g3_4 ≠ g3_5 := by rintro rfl; exact ha 4 5 (by decide) rfl rfl rfl
        clear ha
        simp only [fs, fo, fz, Act.put, s1, s2, s3]
        replace BA := BA.below hb
        replace BB := BB.below hb
        replace HB := Aside0.mk (HB.out.trans ((Below.trans (show Below w2.heap.size w2 w2.drew from pw_below_drewN (Below.refl _ _) 1) hb).mono HB.out.size))
        clear hb
        go_upto_region 4 with fail
        rcases hp0 : (decide (d < 0) : Bool) with _ | _
        case false =>
          replace BA := BA.drew
          replace BB := BB.drew
          replace B4 := B4.drew
          replace B5 := B5.drew
          refine region_sp (by kernel_rfl) [some 19, some 20, some 21, some 22, some 23, some 24, some 25, some 26, some 27, some 28, some 29, some 30, some 31, some 32, some 33, some 34, some 35, some 36, some 37, some 38, some 39, some 40, some 41, some 42, some 43, some 44, some 45, some 46, some 47, some 48, some 4] [undef, undef, undef, undef, undef, undef, undef, undef, undef, undef, undef, undef, undef, undef, undef, undef, undef, undef, undef, undef, undef, undef, undef, undef, undef, undef, undef, undef, undef, undef, .bool false] [Sp.val (fun v => v = .agg #[.int .i64 a2, .int .i64 a3]), Sp.val (fun v => v = .agg #[.int .i64 b2, .int .i64 b3]), Sp.val (fun v => v = .int .i64 d), Sp.val (fun v => v = .bool false), Sp.val (fun v => v = .bool false), Sp.val (fun _ => True), Sp.val (fun _ => True), Sp.val (fun _ => True), Sp.val (fun _ => True), Sp.val (fun _ => True), Sp.val (fun _ => True), Sp.val (fun _ => True), Sp.val (fun _ => True), Sp.val (fun _ => True), Sp.val (fun _ => True), Sp.val (fun v => v = .bool false), Sp.val (fun v => v = .bool false), Sp.val (fun _ => True), Sp.val (fun _ => True), Sp.val (fun _ => True), Sp.val (fun _ => True), Sp.val (fun _ => True), Sp.val (fun v => v = .bool false), Sp.val (fun v => v = .bool false), Sp.val (fun _ => True), Sp.val (fun _ => True), Sp.val (fun _ => True), Sp.val (fun _ => True), Sp.val (fun _ => True), Sp.val (fun v => v = .bool false), Sp.val (fun v => v = .bool false)] (by kernel_rfl) rfl (by kernel_rfl) ⟨?_, ?_, ?_, ?_, ?_, ?_, ?_, ?_, ?_, ?_, ?_, ?_, ?_, ?_, ?_, ?_, ?_, ?_, ?_, ?_, ?_, ?_, ?_, ?_, ?_, ?_, ?_, ?_, ?_, ?_, ?_, trivial⟩ ?_
          · intro vs hl u1 hb hd
            obtain ⟨v0, v1, v2, v3, v4, v5, v6, v7, v8, v9, v10, v11, v12, v13, v14, v15, v16, v17, v18, v19, v20, v21, v22, v23, v24, v25, v26, v27, v28, v29, v30, rfl⟩ := len31 hl
            clear hl
            intro K hK
            obtain ⟨l0, l1⟩ := (B4.below hb).two
            simp only [fs, fo, fz, Act.put, s1, s2, s3] at hK ⊢
            refine ⟨?_⟩
            go_simp
            exact hK _ _ (Below.refl _ _) rfl
          · intro vs hl u1 hb hd
            obtain ⟨v0, v1, v2, v3, v4, v5, v6, v7, v8, v9, v10, v11, v12, v13, v14, v15, v16, v17, v18, v19, v20, v21, v22, v23, v24, v25, v26, v27, v28, v29, v30, rfl⟩ := len31 hl
            clear hl
            intro K hK
            obtain ⟨l0, l1⟩ := (B5.below hb).two
            simp only [fs, fo, fz, Act.put, s1, s2, s3] at hK ⊢
            refine ⟨?_⟩
            go_simp
            exact hK _ _ (Below.refl _ _) rfl
          · intro vs hl u1 hb hd
            obtain ⟨v0, v1, v2, v3, v4, v5, v6, v7, v8, v9, v10, v11, v12, v13, v14, v15, v16, v17, v18, v19, v20, v21, v22, v23, v24, v25, v26, v27, v28, v29, v30, rfl⟩ := len31 hl
            clear hl
            obtain ⟨kh0, kh1, _⟩ := hd
            obtain rfl : v0 = .agg #[.int .i64 a2, .int .i64 a3] := kh0
            obtain rfl : v1 = .agg #[.int .i64 b2, .int .i64 b3] := kh1
            intro K hK
            simp only [fs, fo, fz, Act.put, s1, s2, s3] at hK ⊢
            refine ⟨?_⟩
            go_simp
            refine (Hydt.out _).mono ?_
            rintro e w2 ⟨rfl, hb2⟩
            exact hK _ _ hb2 rfl
          · intro vs hl u1 hb hd
            obtain ⟨v0, v1, v2, v3, v4, v5, v6, v7, v8, v9, v10, v11, v12, v13, v14, v15, v16, v17, v18, v19, v20, v21, v22, v23, v24, v25, v26, v27, v28, v29, v30, rfl⟩ := len31 hl
            clear hl
            obtain ⟨kh2, _⟩ := hd
            obtain rfl : v2 = .int .i64 d := kh2
            intro K hK
            simp only [fs, fo, fz, Act.put, s1, s2, s3] at hK ⊢
            refine ⟨?_⟩
            go_simp
            exact hK _ _ (Below.refl _ _) rfl
          · intro vs hl u1 hb hd
            obtain ⟨v0, v1, v2, v3, v4, v5, v6, v7, v8, v9, v10, v11, v12, v13, v14, v15, v16, v17, v18, v19, v20, v21, v22, v23, v24, v25, v26, v27, v28, v29, v30, rfl⟩ := len31 hl
            clear hl
            obtain ⟨kh3, kh2, _⟩ := hd
            obtain rfl : v3 = .bool false := kh3
            obtain rfl : v2 = .int .i64 d := kh2
            intro K hK
            simp only [fs, fo, fz, Act.put, s1, s2, s3] at hK ⊢
            refine ⟨?_⟩
            go_simp
            exact hK _ _ (Below.refl _ _) rfl
          · intro vs hl u1 hb hd
            obtain ⟨v0, v1, v2, v3, v4, v5, v6, v7, v8, v9, v10, v11, v12, v13, v14, v15, v16, v17, v18, v19, v20, v21, v22, v23, v24, v25, v26, v27, v28, v29, v30, rfl⟩ := len31 hl
            clear hl
            obtain ⟨kh4, _⟩ := hd
            obtain rfl : v4 = .bool false := kh4
            intro K hK
            simp only [fs, fo, fz, Act.put, s1, s2, s3] at hK ⊢
            refine ⟨?_⟩
            go_simp
            exact hK _ _ (Below.refl _ _) trivial
          · intro vs hl u1 hb hd
            obtain ⟨v0, v1, v2, v3, v4, v5, v6, v7, v8, v9, v10, v11, v12, v13, v14, v15, v16, v17, v18, v19, v20, v21, v22, v23, v24, v25, v26, v27, v28, v29, v30, rfl⟩ := len31 hl
            clear hl
            obtain ⟨kh4, _⟩ := hd
            obtain rfl : v4 = .bool false := kh4
            intro K hK
            simp only [fs, fo, fz, Act.put, s1, s2, s3] at hK ⊢
            refine ⟨?_⟩
            go_simp
            exact hK _ _ (Below.refl _ _) trivial
          · intro vs hl u1 hb hd
            obtain ⟨v0, v1, v2, v3, v4, v5, v6, v7, v8, v9, v10, v11, v12, v13, v14, v15, v16, v17, v18, v19, v20, v21, v22, v23, v24, v25, v26, v27, v28, v29, v30, rfl⟩ := len31 hl
            clear hl
            obtain ⟨_, _, kh4, _, _⟩ := hd
            obtain rfl : v4 = .bool false := kh4
            intro K hK
            simp only [fs, fo, fz, Act.put, s1, s2, s3] at hK ⊢
            refine ⟨?_⟩
            go_simp
            exact hK _ _ (Below.refl _ _) trivial
          · intro vs hl u1 hb hd
            obtain ⟨v0, v1, v2, v3, v4, v5, v6, v7, v8, v9, v10, v11, v12, v13, v14, v15, v16, v17, v18, v19, v20, v21, v22, v23, v24, v25, v26, v27, v28, v29, v30, rfl⟩ := len31 hl
            clear hl
            obtain ⟨_, _, kh4, _⟩ := hd
            obtain rfl : v4 = .bool false := kh4
            intro K hK
            simp only [fs, fo, fz, Act.put, s1, s2, s3] at hK ⊢
            refine ⟨?_⟩
            go_simp
            exact hK _ _ (Below.refl _ _) trivial
          · intro vs hl u1 hb hd
            obtain ⟨v0, v1, v2, v3, v4, v5, v6, v7, v8, v9, v10, v11, v12, v13, v14, v15, v16, v17, v18, v19, v20, v21, v22, v23, v24, v25, v26, v27, v28, v29, v30, rfl⟩ := len31 hl
            clear hl
            obtain ⟨_, kh4, _⟩ := hd
            obtain rfl : v4 = .bool false := kh4
            intro K hK
            simp only [fs, fo, fz, Act.put, s1, s2, s3] at hK ⊢
            refine ⟨?_⟩
            go_simp
            exact hK _ _ (Below.refl _ _) trivial
          · intro vs hl u1 hb hd
            obtain ⟨v0, v1, v2, v3, v4, v5, v6, v7, v8, v9, v10, v11, v12, v13, v14, v15, v16, v17, v18, v19, v20, v21, v22, v23, v24, v25, v26, v27, v28, v29, v30, rfl⟩ := len31 hl
            clear hl
            obtain ⟨kh4, _⟩ := hd
            obtain rfl : v4 = .bool false := kh4
            intro K hK
            simp only [fs, fo, fz, Act.put, s1, s2, s3] at hK ⊢
            refine ⟨?_⟩
            go_simp
            exact hK _ _ (Below.refl _ _) trivial
          · intro vs hl u1 hb hd
            obtain ⟨v0, v1, v2, v3, v4, v5, v6, v7, v8, v9, v10, v11, v12, v13, v14, v15, v16, v17, v18, v19, v20, v21, v22, v23, v24, v25, v26, v27, v28, v29, v30, rfl⟩ := len31 hl
            clear hl
            obtain ⟨kh4, _⟩ := hd
            obtain rfl : v4 = .bool false := kh4
            intro K hK
            simp only [fs, fo, fz, Act.put, s1, s2, s3] at hK ⊢
            refine ⟨?_⟩
            go_simp
            exact hK _ _ (Below.refl _ _) trivial
          · intro vs hl u1 hb hd
            obtain ⟨v0, v1, v2, v3, v4, v5, v6, v7, v8, v9, v10, v11, v12, v13, v14, v15, v16, v17, v18, v19, v20, v21, v22, v23, v24, v25, v26, v27, v28, v29, v30, rfl⟩ := len31 hl
            clear hl
            obtain ⟨_, _, _, kh4, _⟩ := hd
            obtain rfl : v4 = .bool false := kh4
            intro K hK
            simp only [fs, fo, fz, Act.put, s1, s2, s3] at hK ⊢
            refine ⟨?_⟩
            go_simp
            exact hK _ _ (Below.refl _ _) trivial
          · intro vs hl u1 hb hd
            obtain ⟨v0, v1, v2, v3, v4, v5, v6, v7, v8, v9, v10, v11, v12, v13, v14, v15, v16, v17, v18, v19, v20, v21, v22, v23, v24, v25, v26, v27, v28, v29, v30, rfl⟩ := len31 hl
            clear hl
            obtain ⟨_, _, kh4, _⟩ := hd
            obtain rfl : v4 = .bool false := kh4
            intro K hK
            simp only [fs, fo, fz, Act.put, s1, s2, s3] at hK ⊢
            refine ⟨?_⟩
            go_simp
            exact hK _ _ (Below.refl _ _) trivial
          · intro vs hl u1 hb hd
            obtain ⟨v0, v1, v2, v3, v4, v5, v6, v7, v8, v9, v10, v11, v12, v13, v14, v15, v16, v17, v18, v19, v20, v21, v22, v23, v24, v25, v26, v27, v28, v29, v30, rfl⟩ := len31 hl
            clear hl
            obtain ⟨_, _, kh4, _⟩ := hd
            obtain rfl : v4 = .bool false := kh4
            intro K hK
            simp only [fs, fo, fz, Act.put, s1, s2, s3] at hK ⊢
            refine ⟨?_⟩
            go_simp
            exact hK _ _ (Below.refl _ _) trivial
          · intro vs hl u1 hb hd
            obtain ⟨v0, v1, v2, v3, v4, v5, v6, v7, v8, v9, v10, v11, v12, v13, v14, v15, v16, v17, v18, v19, v20, v21, v22, v23, v24, v25, v26, v27, v28, v29, v30, rfl⟩ := len31 hl
            clear hl
            obtain ⟨kh4, _, _⟩ := hd
            obtain rfl : v4 = .bool false := kh4
            intro K hK
            simp only [fs, fo, fz, Act.put, s1, s2, s3] at hK ⊢
            refine ⟨?_⟩
            go_simp
            exact hK _ _ (Below.refl _ _) rfl
          · intro vs hl u1 hb hd
            obtain ⟨v0, v1, v2, v3, v4, v5, v6, v7, v8, v9, v10, v11, v12, v13, v14, v15, v16, v17, v18, v19, v20, v21, v22, v23, v24, v25, v26, v27, v28, v29, v30, rfl⟩ := len31 hl
            clear hl
            obtain ⟨kh15, _, _⟩ := hd
            obtain rfl : v15 = .bool false := kh15
            intro K hK
            simp only [fs, fo, fz, Act.put, s1, s2, s3] at hK ⊢
            refine ⟨?_⟩
            go_simp
            exact hK _ _ (Below.refl _ _) rfl
          · intro vs hl u1 hb hd
            obtain ⟨v0, v1, v2, v3, v4, v5, v6, v7, v8, v9, v10, v11, v12, v13, v14, v15, v16, v17, v18, v19, v20, v21, v22, v23, v24, v25, v26, v27, v28, v29, v30, rfl⟩ := len31 hl
            clear hl
            obtain ⟨kh16, _⟩ := hd
            obtain rfl : v16 = .bool false := kh16
            intro K hK
            simp only [fs, fo, fz, Act.put, s1, s2, s3] at hK ⊢
            refine ⟨?_⟩
            go_simp
            exact hK _ _ (Below.refl _ _) trivial
          · intro vs hl u1 hb hd
            obtain ⟨v0, v1, v2, v3, v4, v5, v6, v7, v8, v9, v10, v11, v12, v13, v14, v15, v16, v17, v18, v19, v20, v21, v22, v23, v24, v25, v26, v27, v28, v29, v30, rfl⟩ := len31 hl
            clear hl
            obtain ⟨kh16, _⟩ := hd
            obtain rfl : v16 = .bool false := kh16
            intro K hK
            simp only [fs, fo, fz, Act.put, s1, s2, s3] at hK ⊢
            refine ⟨?_⟩
            go_simp
            exact hK _ _ (Below.refl _ _) trivial
          · intro vs hl u1 hb hd
            obtain ⟨v0, v1, v2, v3, v4, v5, v6, v7, v8, v9, v10, v11, v12, v13, v14, v15, v16, v17, v18, v19, v20, v21, v22, v23, v24, v25, v26, v27, v28, v29, v30, rfl⟩ := len31 hl
            clear hl
            obtain ⟨_, _, kh16, _, _⟩ := hd
            obtain rfl : v16 = .bool false := kh16
            intro K hK
            simp only [fs, fo, fz, Act.put, s1, s2, s3] at hK ⊢
            refine ⟨?_⟩
            go_simp
            exact hK _ _ (Below.refl _ _) trivial
          · intro vs hl u1 hb hd
            obtain ⟨v0, v1, v2, v3, v4, v5, v6, v7, v8, v9, v10, v11, v12, v13, v14, v15, v16, v17, v18, v19, v20, v21, v22, v23, v24, v25, v26, v27, v28, v29, v30, rfl⟩ := len31 hl
            clear hl
            obtain ⟨kh16, _⟩ := hd
            obtain rfl : v16 = .bool false := kh16
            intro K hK
            simp only [fs, fo, fz, Act.put, s1, s2, s3] at hK ⊢
            refine ⟨?_⟩
            go_simp
            exact hK _ _ (Below.refl _ _) trivial
          · intro vs hl u1 hb hd
            obtain ⟨v0, v1, v2, v3, v4, v5, v6, v7, v8, v9, v10, v11, v12, v13, v14, v15, v16, v17, v18, v19, v20, v21, v22, v23, v24, v25, v26, v27, v28, v29, v30, rfl⟩ := len31 hl
            clear hl
            obtain ⟨_, _, _, kh16, _⟩ := hd
            obtain rfl : v16 = .bool false := kh16
            intro K hK
            simp only [fs, fo, fz, Act.put, s1, s2, s3] at hK ⊢
            refine ⟨?_⟩
            go_simp
            exact hK _ _ (Below.refl _ _) trivial
          · intro vs hl u1 hb hd
            obtain ⟨v0, v1, v2, v3, v4, v5, v6, v7, v8, v9, v10, v11, v12, v13, v14, v15, v16, v17, v18, v19, v20, v21, v22, v23, v24, v25, v26, v27, v28, v29, v30, rfl⟩ := len31 hl
            clear hl
            obtain ⟨kh16, _, _⟩ := hd
            obtain rfl : v16 = .bool false := kh16
            intro K hK
            simp only [fs, fo, fz, Act.put, s1, s2, s3] at hK ⊢
            refine ⟨?_⟩
            go_simp
            exact hK _ _ (Below.refl _ _) rfl
          · intro vs hl u1 hb hd
            obtain ⟨v0, v1, v2, v3, v4, v5, v6, v7, v8, v9, v10, v11, v12, v13, v14, v15, v16, v17, v18, v19, v20, v21, v22, v23, v24, v25, v26, v27, v28, v29, v30, rfl⟩ := len31 hl
            clear hl
            obtain ⟨kh22, _, _⟩ := hd
            obtain rfl : v22 = .bool false := kh22
            intro K hK
            simp only [fs, fo, fz, Act.put, s1, s2, s3] at hK ⊢
            refine ⟨?_⟩
            go_simp
            exact hK _ _ (Below.refl _ _) rfl
          · intro vs hl u1 hb hd
            obtain ⟨v0, v1, v2, v3, v4, v5, v6, v7, v8, v9, v10, v11, v12, v13, v14, v15, v16, v17, v18, v19, v20, v21, v22, v23, v24, v25, v26, v27, v28, v29, v30, rfl⟩ := len31 hl
            clear hl
            obtain ⟨kh23, _⟩ := hd
            obtain rfl : v23 = .bool false := kh23
            intro K hK
            simp only [fs, fo, fz, Act.put, s1, s2, s3] at hK ⊢
            refine ⟨?_⟩
            go_simp
            exact hK _ _ (Below.refl _ _) trivial
          · intro vs hl u1 hb hd
            obtain ⟨v0, v1, v2, v3, v4, v5, v6, v7, v8, v9, v10, v11, v12, v13, v14, v15, v16, v17, v18, v19, v20, v21, v22, v23, v24, v25, v26, v27, v28, v29, v30, rfl⟩ := len31 hl
            clear hl
            obtain ⟨kh23, _⟩ := hd
            obtain rfl : v23 = .bool false := kh23
            intro K hK
            simp only [fs, fo, fz, Act.put, s1, s2, s3] at hK ⊢
            refine ⟨?_⟩
            go_simp
            exact hK _ _ (Below.refl _ _) trivial
          · intro vs hl u1 hb hd
            obtain ⟨v0, v1, v2, v3, v4, v5, v6, v7, v8, v9, v10, v11, v12, v13, v14, v15, v16, v17, v18, v19, v20, v21, v22, v23, v24, v25, v26, v27, v28, v29, v30, rfl⟩ := len31 hl
            clear hl
            obtain ⟨_, _, kh23, _, _⟩ := hd
            obtain rfl : v23 = .bool false := kh23
            intro K hK
            simp only [fs, fo, fz, Act.put, s1, s2, s3] at hK ⊢
            refine ⟨?_⟩
            go_simp
            exact hK _ _ (Below.refl _ _) trivial
          · intro vs hl u1 hb hd
            obtain ⟨v0, v1, v2, v3, v4, v5, v6, v7, v8, v9, v10, v11, v12, v13, v14, v15, v16, v17, v18, v19, v20, v21, v22, v23, v24, v25, v26, v27, v28, v29, v30, rfl⟩ := len31 hl
            clear hl
            obtain ⟨kh23, _⟩ := hd
            obtain rfl : v23 = .bool false := kh23
            intro K hK
            simp only [fs, fo, fz, Act.put, s1, s2, s3] at hK ⊢
            refine ⟨?_⟩
            go_simp
            exact hK _ _ (Below.refl _ _) trivial
          · intro vs hl u1 hb hd
            obtain ⟨v0, v1, v2, v3, v4, v5, v6, v7, v8, v9, v10, v11, v12, v13, v14, v15, v16, v17, v18, v19, v20, v21, v22, v23, v24, v25, v26, v27, v28, v29, v30, rfl⟩ := len31 hl
            clear hl
            obtain ⟨_, _, _, kh23, _⟩ := hd
            obtain rfl : v23 = .bool false := kh23
            intro K hK
            simp only [fs, fo, fz, Act.put, s1, s2, s3] at hK ⊢
            refine ⟨?_⟩
            go_simp
            exact hK _ _ (Below.refl _ _) trivial
          · intro vs hl u1 hb hd
            obtain ⟨v0, v1, v2, v3, v4, v5, v6, v7, v8, v9, v10, v11, v12, v13, v14, v15, v16, v17, v18, v19, v20, v21, v22, v23, v24, v25, v26, v27, v28, v29, v30, rfl⟩ := len31 hl
            clear hl
            obtain ⟨kh23, _, _⟩ := hd
            obtain rfl : v23 = .bool false := kh23
            intro K hK
            simp only [fs, fo, fz, Act.put, s1, s2, s3] at hK ⊢
            refine ⟨?_⟩
            go_simp
            exact hK _ _ (Below.refl _ _) rfl
          · intro vs hl u1 hb hd
            obtain ⟨v0, v1, v2, v3, v4, v5, v6, v7, v8, v9, v10, v11, v12, v13, v14, v15, v16, v17, v18, v19, v20, v21, v22, v23, v24, v25, v26, v27, v28, v29, v30, rfl⟩ := len31 hl
            clear hl
            obtain ⟨kh29, _, kh0, kh1, kh2, kh3, kh4, _, _, _, _, _, _, _, _, _, _, kh15, kh16, _, _, _, _, _, kh22, kh23, _, _, _, _, _, _, _⟩ := hd
            obtain rfl : v29 = .bool false := kh29
            obtain rfl : v0 = .agg #[.int .i64 a2, .int .i64 a3] := kh0
            obtain rfl : v1 = .agg #[.int .i64 b2, .int .i64 b3] := kh1
            obtain rfl : v2 = .int .i64 d := kh2
            obtain rfl : v3 = .bool false := kh3
            obtain rfl : v4 = .bool false := kh4
            obtain rfl : v15 = .bool false := kh15
            obtain rfl : v16 = .bool false := kh16
            obtain rfl : v22 = .bool false := kh22
            obtain rfl : v23 = .bool false := kh23
            intro K hK
            simp only [fs, fo, fz, Act.put, s1, s2, s3] at hK ⊢
            refine ⟨?_⟩
            go_simp
            exact hK _ _ (Below.refl _ _) rfl
          · intro vs hl w4 hb hd ha
            obtain ⟨v0, v1, v2, v3, v4, v5, v6, v7, v8, v9, v10, v11, v12, v13, v14, v15, v16, v17, v18, v19, v20, v21, v22, v23, v24, v25, v26, v27, v28, v29, v30, rfl⟩ := len31 hl
            clear hl
            obtain ⟨kh0, kh1, kh2, kh3, kh4, _, _, _, _, _, _, _, _, _, _, kh15, kh16, _, _, _, _, _, kh22, kh23, _, _, _, _, _, kh29, kh30, _⟩ := hd
            obtain rfl : v0 = .agg #[.int .i64 a2, .int .i64 a3] := kh0
            obtain rfl : v1 = .agg #[.int .i64 b2, .int .i64 b3] := kh1
            obtain rfl : v2 = .int .i64 d := kh2
            obtain rfl : v3 = .bool false := kh3
            obtain rfl : v4 = .bool false := kh4
            obtain rfl : v15 = .bool false := kh15
            obtain rfl : v16 = .bool false := kh16
            obtain rfl : v22 = .bool false := kh22
            obtain rfl : v23 = .bool false := kh23
            obtain rfl : v29 = .bool false := kh29
            obtain rfl : v30 = .bool false := kh30
            clear ha
            simp only [fs, fo, fz, Act.put, s1, s2, s3]
            replace BA := BA.below hb
            replace BB := BB.below hb
            replace B4 := B4.below hb
            replace B5 := B5.below hb
            replace HB := Aside0.mk (HB.out.trans ((Below.trans (show Below w3.heap.size w3 w3.drew from pw_below_drewN (Below.refl _ _) 1) hb).mono HB.out.size))
            clear hb
            go_wp2
            go_ret
            exact ⟨by first | rfl | (simp only [hp0]; rfl), HB.out⟩
        case true =>
          rcases hp1 : (decide (IntKind.u64.wrap (q1 * 100) ≤ q2) : Bool) with _ | _
          case false =>
            replace BA := BA.drew
            replace BB := BB.drew
            replace B4 := B4.drew
            replace B5 := B5.drew
            refine region_sp (by kernel_rfl) [some 19, some 20, some 21, some 22, some 23, some 24, some 25, some 26, some 27, some 28, some 29, some 30, some 31, some 32, some 33, some 34, some 35, some 36, some 37, some 38, some 39, some 40, some 41, some 42, some 43, some 44, some 45, some 46, some 47, some 48, some 4] [undef, undef, undef, undef, undef, undef, undef, undef, undef, undef, undef, undef, undef, undef, undef, undef, undef, undef, undef, undef, undef, undef, undef, undef, undef, undef, undef, undef, undef, undef, .bool false] [Sp.val (fun v => v = .agg #[.int .i64 a2, .int .i64 a3]), Sp.val (fun v => v = .agg #[.int .i64 b2, .int .i64 b3]), Sp.val (fun v => v = .int .i64 d), Sp.val (fun v => v = .bool true), Sp.val (fun v => v = .bool true), Sp.val (fun v => v = .agg #[.int .i64 a2, .int .i64 a3]), Sp.val (fun v => v = .agg #[.int .i64 b2, .int .i64 b3]), Sp.val (fun v => v = .int .i64 c), Sp.val (fun v => v = .int .u64 q1), Sp.val (fun v => v = .int .u64 (IntKind.u64.wrap (q1 * 100))), Sp.val (fun v => v = .agg #[.int .i64 a2, .int .i64 a3]), Sp.val (fun v => v = .agg #[.int .i64 b2, .int .i64 b3]), Sp.val (fun v => v = .int .i64 d), Sp.val (fun v => v = .int .u64 q2), Sp.val (fun v => v = .bool false), Sp.val (fun v => v = .bool false), Sp.val (fun v => v = .bool false), Sp.val (fun _ => True), Sp.val (fun _ => True), Sp.val (fun _ => True), Sp.val (fun _ => True), Sp.val (fun _ => True), Sp.val (fun v => v = .bool false), Sp.val (fun v => v = .bool false), Sp.val (fun _ => True), Sp.val (fun _ => True), Sp.val (fun _ => True), Sp.val (fun _ => True), Sp.val (fun _ => True), Sp.val (fun v => v = .bool false), Sp.val (fun v => v = .bool false)] (by kernel_rfl) rfl (by kernel_rfl) ⟨?_, ?_, ?_, ?_, ?_, ?_, ?_, ?_, ?_, ?_, ?_, ?_, ?_, ?_, ?_, ?_, ?_, ?_, ?_, ?_, ?_, ?_, ?_, ?_, ?_, ?_, ?_, ?_, ?_, ?_, ?_, trivial⟩ ?_
            · intro vs hl u1 hb hd
              obtain ⟨v0, v1, v2, v3, v4, v5, v6, v7, v8, v9, v10, v11, v12, v13, v14, v15, v16, v17, v18, v19, v20, v21, v22, v23, v24, v25, v26, v27, v28, v29, v30, rfl⟩ := len31 hl
              clear hl
              intro K hK
              obtain ⟨l0, l1⟩ := (B4.below hb).two
              simp only [fs, fo, fz, Act.put, s1, s2, s3] at hK ⊢
              refine ⟨?_⟩
              go_simp
              exact hK _ _ (Below.refl _ _) rfl
            · intro vs hl u1 hb hd
              obtain ⟨v0, v1, v2, v3, v4, v5, v6, v7, v8, v9, v10, v11, v12, v13, v14, v15, v16, v17, v18, v19, v20, v21, v22, v23, v24, v25, v26, v27, v28, v29, v30, rfl⟩ := len31 hl
              clear hl
              intro K hK
              obtain ⟨l0, l1⟩ := (B5.below hb).two
              simp only [fs, fo, fz, Act.put, s1, s2, s3] at hK ⊢
              refine ⟨?_⟩
              go_simp
              exact hK _ _ (Below.refl _ _) rfl
            · intro vs hl u1 hb hd
              obtain ⟨v0, v1, v2, v3, v4, v5, v6, v7, v8, v9, v10, v11, v12, v13, v14, v15, v16, v17, v18, v19, v20, v21, v22, v23, v24, v25, v26, v27, v28, v29, v30, rfl⟩ := len31 hl
              clear hl
              obtain ⟨kh0, kh1, _⟩ := hd
              obtain rfl : v0 = .agg #[.int .i64 a2, .int .i64 a3] := kh0
              obtain rfl : v1 = .agg #[.int .i64 b2, .int .i64 b3] := kh1
              intro K hK
              simp only [fs, fo, fz, Act.put, s1, s2, s3] at hK ⊢
              refine ⟨?_⟩
              go_simp
              refine (Hydt.out _).mono ?_
              rintro e w2 ⟨rfl, hb2⟩
              exact hK _ _ hb2 rfl
            · intro vs hl u1 hb hd
              obtain ⟨v0, v1, v2, v3, v4, v5, v6, v7, v8, v9, v10, v11, v12, v13, v14, v15, v16, v17, v18, v19, v20, v21, v22, v23, v24, v25, v26, v27, v28, v29, v30, rfl⟩ := len31 hl
              clear hl
              obtain ⟨kh2, _⟩ := hd
              obtain rfl : v2 = .int .i64 d := kh2
              intro K hK
              simp only [fs, fo, fz, Act.put, s1, s2, s3] at hK ⊢
              refine ⟨?_⟩
              go_simp
              exact hK _ _ (Below.refl _ _) rfl
            · intro vs hl u1 hb hd
              obtain ⟨v0, v1, v2, v3, v4, v5, v6, v7, v8, v9, v10, v11, v12, v13, v14, v15, v16, v17, v18, v19, v20, v21, v22, v23, v24, v25, v26, v27, v28, v29, v30, rfl⟩ := len31 hl
              clear hl
              obtain ⟨kh3, kh2, _⟩ := hd
              obtain rfl : v3 = .bool true := kh3
              obtain rfl : v2 = .int .i64 d := kh2
              intro K hK
              simp only [fs, fo, fz, Act.put, s1, s2, s3] at hK ⊢
              refine ⟨?_⟩
              go_simp
              exact hK _ _ (Below.refl _ _) rfl
            · intro vs hl u1 hb hd
              obtain ⟨v0, v1, v2, v3, v4, v5, v6, v7, v8, v9, v10, v11, v12, v13, v14, v15, v16, v17, v18, v19, v20, v21, v22, v23, v24, v25, v26, v27, v28, v29, v30, rfl⟩ := len31 hl
              clear hl
              obtain ⟨kh4, _⟩ := hd
              obtain rfl : v4 = .bool true := kh4
              intro K hK
              obtain ⟨l0, l1⟩ := (B4.below hb).two
              simp only [fs, fo, fz, Act.put, s1, s2, s3] at hK ⊢
              refine ⟨?_⟩
              go_simp
              exact hK _ _ (Below.refl _ _) rfl
            · intro vs hl u1 hb hd
              obtain ⟨v0, v1, v2, v3, v4, v5, v6, v7, v8, v9, v10, v11, v12, v13, v14, v15, v16, v17, v18, v19, v20, v21, v22, v23, v24, v25, v26, v27, v28, v29, v30, rfl⟩ := len31 hl
              clear hl
              obtain ⟨kh4, _⟩ := hd
              obtain rfl : v4 = .bool true := kh4
              intro K hK
              obtain ⟨l0, l1⟩ := (B5.below hb).two
              simp only [fs, fo, fz, Act.put, s1, s2, s3] at hK ⊢
              refine ⟨?_⟩
              go_simp
              exact hK _ _ (Below.refl _ _) rfl
            · intro vs hl u1 hb hd
              obtain ⟨v0, v1, v2, v3, v4, v5, v6, v7, v8, v9, v10, v11, v12, v13, v14, v15, v16, v17, v18, v19, v20, v21, v22, v23, v24, v25, v26, v27, v28, v29, v30, rfl⟩ := len31 hl
              clear hl
              obtain ⟨kh5, kh6, kh4, _, _⟩ := hd
              obtain rfl : v5 = .agg #[.int .i64 a2, .int .i64 a3] := kh5
              obtain rfl : v6 = .agg #[.int .i64 b2, .int .i64 b3] := kh6
              obtain rfl : v4 = .bool true := kh4
              intro K hK
              simp only [fs, fo, fz, Act.put, s1, s2, s3] at hK ⊢
              refine ⟨?_⟩
              go_simp
              refine (Hycr.out _).mono ?_
              rintro e w2 ⟨rfl, hb2⟩
              exact hK _ _ hb2 rfl
            · intro vs hl u1 hb hd
              obtain ⟨v0, v1, v2, v3, v4, v5, v6, v7, v8, v9, v10, v11, v12, v13, v14, v15, v16, v17, v18, v19, v20, v21, v22, v23, v24, v25, v26, v27, v28, v29, v30, rfl⟩ := len31 hl
              clear hl
              obtain ⟨kh7, _, kh4, _⟩ := hd
              obtain rfl : v7 = .int .i64 c := kh7
              obtain rfl : v4 = .bool true := kh4
              intro K hK
              simp only [fs, fo, fz, Act.put, s1, s2, s3] at hK ⊢
              refine ⟨?_⟩
              go_simp
              refine (Hysc.out _).mono ?_
              rintro e w2 ⟨rfl, hb2⟩
              exact hK _ _ hb2 rfl
            · intro vs hl u1 hb hd
              obtain ⟨v0, v1, v2, v3, v4, v5, v6, v7, v8, v9, v10, v11, v12, v13, v14, v15, v16, v17, v18, v19, v20, v21, v22, v23, v24, v25, v26, v27, v28, v29, v30, rfl⟩ := len31 hl
              clear hl
              obtain ⟨kh8, kh4, _⟩ := hd
              obtain rfl : v8 = .int .u64 q1 := kh8
              obtain rfl : v4 = .bool true := kh4
              intro K hK
              simp only [fs, fo, fz, Act.put, s1, s2, s3] at hK ⊢
              refine ⟨?_⟩
              go_simp
              exact hK _ _ (Below.refl _ _) rfl
            · intro vs hl u1 hb hd
              obtain ⟨v0, v1, v2, v3, v4, v5, v6, v7, v8, v9, v10, v11, v12, v13, v14, v15, v16, v17, v18, v19, v20, v21, v22, v23, v24, v25, v26, v27, v28, v29, v30, rfl⟩ := len31 hl
              clear hl
              obtain ⟨kh4, _⟩ := hd
              obtain rfl : v4 = .bool true := kh4
              intro K hK
              obtain ⟨l0, l1⟩ := (B4.below hb).two
              simp only [fs, fo, fz, Act.put, s1, s2, s3] at hK ⊢
              refine ⟨?_⟩
              go_simp
              exact hK _ _ (Below.refl _ _) rfl
            · intro vs hl u1 hb hd
              obtain ⟨v0, v1, v2, v3, v4, v5, v6, v7, v8, v9, v10, v11, v12, v13, v14, v15, v16, v17, v18, v19, v20, v21, v22, v23, v24, v25, v26, v27, v28, v29, v30, rfl⟩ := len31 hl
              clear hl
              obtain ⟨kh4, _⟩ := hd
              obtain rfl : v4 = .bool true := kh4
              intro K hK
              obtain ⟨l0, l1⟩ := (B5.below hb).two
              simp only [fs, fo, fz, Act.put, s1, s2, s3] at hK ⊢
              refine ⟨?_⟩
              go_simp
              exact hK _ _ (Below.refl _ _) rfl
            · intro vs hl u1 hb hd
              obtain ⟨v0, v1, v2, v3, v4, v5, v6, v7, v8, v9, v10, v11, v12, v13, v14, v15, v16, v17, v18, v19, v20, v21, v22, v23, v24, v25, v26, v27, v28, v29, v30, rfl⟩ := len31 hl
              clear hl
              obtain ⟨kh10, kh11, kh8, kh4, _⟩ := hd
              obtain rfl : v10 = .agg #[.int .i64 a2, .int .i64 a3] := kh10
              obtain rfl : v11 = .agg #[.int .i64 b2, .int .i64 b3] := kh11
              obtain rfl : v8 = .int .u64 q1 := kh8
              obtain rfl : v4 = .bool true := kh4
              intro K hK
              simp only [fs, fo, fz, Act.put, s1, s2, s3] at hK ⊢
              refine ⟨?_⟩
              go_simp
              refine (Hydt.out _).mono ?_
              rintro e w2 ⟨rfl, hb2⟩
              exact hK _ _ hb2 rfl
            · intro vs hl u1 hb hd
              obtain ⟨v0, v1, v2, v3, v4, v5, v6, v7, v8, v9, v10, v11, v12, v13, v14, v15, v16, v17, v18, v19, v20, v21, v22, v23, v24, v25, v26, v27, v28, v29, v30, rfl⟩ := len31 hl
              clear hl
              obtain ⟨kh12, _, kh4, _⟩ := hd
              obtain rfl : v12 = .int .i64 d := kh12
              obtain rfl : v4 = .bool true := kh4
              intro K hK
              simp only [fs, fo, fz, Act.put, s1, s2, s3] at hK ⊢
              refine ⟨?_⟩
              go_simp
              refine (Hysd.out _).mono ?_
              rintro e w2 ⟨rfl, hb2⟩
              exact hK _ _ hb2 rfl
            · intro vs hl u1 hb hd
              obtain ⟨v0, v1, v2, v3, v4, v5, v6, v7, v8, v9, v10, v11, v12, v13, v14, v15, v16, v17, v18, v19, v20, v21, v22, v23, v24, v25, v26, v27, v28, v29, v30, rfl⟩ := len31 hl
              clear hl
              obtain ⟨kh9, kh13, kh4, _⟩ := hd
              obtain rfl : v9 = .int .u64 (IntKind.u64.wrap (q1 * 100)) := kh9
              obtain rfl : v13 = .int .u64 q2 := kh13
              obtain rfl : v4 = .bool true := kh4
              intro K hK
              simp only [fs, fo, fz, Act.put, s1, s2, s3] at hK ⊢
              refine ⟨?_⟩
              go_simp
              exact hK _ _ (Below.refl _ _) rfl
            · intro vs hl u1 hb hd
              obtain ⟨v0, v1, v2, v3, v4, v5, v6, v7, v8, v9, v10, v11, v12, v13, v14, v15, v16, v17, v18, v19, v20, v21, v22, v23, v24, v25, v26, v27, v28, v29, v30, rfl⟩ := len31 hl
              clear hl
              obtain ⟨kh4, kh14, _⟩ := hd
              obtain rfl : v4 = .bool true := kh4
              obtain rfl : v14 = .bool false := kh14
              intro K hK
              simp only [fs, fo, fz, Act.put, s1, s2, s3] at hK ⊢
              refine ⟨?_⟩
              go_simp
              exact hK _ _ (Below.refl _ _) rfl
            · intro vs hl u1 hb hd
              obtain ⟨v0, v1, v2, v3, v4, v5, v6, v7, v8, v9, v10, v11, v12, v13, v14, v15, v16, v17, v18, v19, v20, v21, v22, v23, v24, v25, v26, v27, v28, v29, v30, rfl⟩ := len31 hl
              clear hl
              obtain ⟨kh15, kh13, _⟩ := hd
              obtain rfl : v15 = .bool false := kh15
              obtain rfl : v13 = .int .u64 q2 := kh13
              intro K hK
              simp only [fs, fo, fz, Act.put, s1, s2, s3] at hK ⊢
              refine ⟨?_⟩
              go_simp
              exact hK _ _ (Below.refl _ _) rfl
            · intro vs hl u1 hb hd
              obtain ⟨v0, v1, v2, v3, v4, v5, v6, v7, v8, v9, v10, v11, v12, v13, v14, v15, v16, v17, v18, v19, v20, v21, v22, v23, v24, v25, v26, v27, v28, v29, v30, rfl⟩ := len31 hl
              clear hl
              obtain ⟨kh16, _⟩ := hd
              obtain rfl : v16 = .bool false := kh16
              intro K hK
              simp only [fs, fo, fz, Act.put, s1, s2, s3] at hK ⊢
              refine ⟨?_⟩
              go_simp
              exact hK _ _ (Below.refl _ _) trivial
            · intro vs hl u1 hb hd
              obtain ⟨v0, v1, v2, v3, v4, v5, v6, v7, v8, v9, v10, v11, v12, v13, v14, v15, v16, v17, v18, v19, v20, v21, v22, v23, v24, v25, v26, v27, v28, v29, v30, rfl⟩ := len31 hl
              clear hl
              obtain ⟨kh16, _⟩ := hd
              obtain rfl : v16 = .bool false := kh16
              intro K hK
              simp only [fs, fo, fz, Act.put, s1, s2, s3] at hK ⊢
              refine ⟨?_⟩
              go_simp
              exact hK _ _ (Below.refl _ _) trivial
            · intro vs hl u1 hb hd
              obtain ⟨v0, v1, v2, v3, v4, v5, v6, v7, v8, v9, v10, v11, v12, v13, v14, v15, v16, v17, v18, v19, v20, v21, v22, v23, v24, v25, v26, v27, v28, v29, v30, rfl⟩ := len31 hl
              clear hl
              obtain ⟨_, _, kh16, _, _⟩ := hd
              obtain rfl : v16 = .bool false := kh16
              intro K hK
              simp only [fs, fo, fz, Act.put, s1, s2, s3] at hK ⊢
              refine ⟨?_⟩
              go_simp
              exact hK _ _ (Below.refl _ _) trivial
            · intro vs hl u1 hb hd
              obtain ⟨v0, v1, v2, v3, v4, v5, v6, v7, v8, v9, v10, v11, v12, v13, v14, v15, v16, v17, v18, v19, v20, v21, v22, v23, v24, v25, v26, v27, v28, v29, v30, rfl⟩ := len31 hl
              clear hl
              obtain ⟨kh16, _⟩ := hd
              obtain rfl : v16 = .bool false := kh16
              intro K hK
              simp only [fs, fo, fz, Act.put, s1, s2, s3] at hK ⊢
              refine ⟨?_⟩
              go_simp
              exact hK _ _ (Below.refl _ _) trivial
            · intro vs hl u1 hb hd
              obtain ⟨v0, v1, v2, v3, v4, v5, v6, v7, v8, v9, v10, v11, v12, v13, v14, v15, v16, v17, v18, v19, v20, v21, v22, v23, v24, v25, v26, v27, v28, v29, v30, rfl⟩ := len31 hl
              clear hl
              obtain ⟨_, _, _, kh16, _⟩ := hd
              obtain rfl : v16 = .bool false := kh16
              intro K hK
              simp only [fs, fo, fz, Act.put, s1, s2, s3] at hK ⊢
              refine ⟨?_⟩
              go_simp
              exact hK _ _ (Below.refl _ _) trivial
            · intro vs hl u1 hb hd
              obtain ⟨v0, v1, v2, v3, v4, v5, v6, v7, v8, v9, v10, v11, v12, v13, v14, v15, v16, v17, v18, v19, v20, v21, v22, v23, v24, v25, v26, v27, v28, v29, v30, rfl⟩ := len31 hl
              clear hl
              obtain ⟨kh16, _, _⟩ := hd
              obtain rfl : v16 = .bool false := kh16
              intro K hK
              simp only [fs, fo, fz, Act.put, s1, s2, s3] at hK ⊢
              refine ⟨?_⟩
              go_simp
              exact hK _ _ (Below.refl _ _) rfl
            · intro vs hl u1 hb hd
              obtain ⟨v0, v1, v2, v3, v4, v5, v6, v7, v8, v9, v10, v11, v12, v13, v14, v15, v16, v17, v18, v19, v20, v21, v22, v23, v24, v25, v26, v27, v28, v29, v30, rfl⟩ := len31 hl
              clear hl
              obtain ⟨kh22, _, _⟩ := hd
              obtain rfl : v22 = .bool false := kh22
              intro K hK
              simp only [fs, fo, fz, Act.put, s1, s2, s3] at hK ⊢
              refine ⟨?_⟩
              go_simp
              exact hK _ _ (Below.refl _ _) rfl
            · intro vs hl u1 hb hd
              obtain ⟨v0, v1, v2, v3, v4, v5, v6, v7, v8, v9, v10, v11, v12, v13, v14, v15, v16, v17, v18, v19, v20, v21, v22, v23, v24, v25, v26, v27, v28, v29, v30, rfl⟩ := len31 hl
              clear hl
              obtain ⟨kh23, _⟩ := hd
              obtain rfl : v23 = .bool false := kh23
              intro K hK
              simp only [fs, fo, fz, Act.put, s1, s2, s3] at hK ⊢
              refine ⟨?_⟩
              go_simp
              exact hK _ _ (Below.refl _ _) trivial
            · intro vs hl u1 hb hd
              obtain ⟨v0, v1, v2, v3, v4, v5, v6, v7, v8, v9, v10, v11, v12, v13, v14, v15, v16, v17, v18, v19, v20, v21, v22, v23, v24, v25, v26, v27, v28, v29, v30, rfl⟩ := len31 hl
              clear hl
              obtain ⟨kh23, _⟩ := hd
              obtain rfl : v23 = .bool false := kh23
              intro K hK
              simp only [fs, fo, fz, Act.put, s1, s2, s3] at hK ⊢
              refine ⟨?_⟩
              go_simp
              exact hK _ _ (Below.refl _ _) trivial
            · intro vs hl u1 hb hd
              obtain ⟨v0, v1, v2, v3, v4, v5, v6, v7, v8, v9, v10, v11, v12, v13, v14, v15, v16, v17, v18, v19, v20, v21, v22, v23, v24, v25, v26, v27, v28, v29, v30, rfl⟩ := len31 hl
              clear hl
              obtain ⟨_, _, kh23, _, _⟩ := hd
              obtain rfl : v23 = .bool false := kh23
              intro K hK
              simp only [fs, fo, fz, Act.put, s1, s2, s3] at hK ⊢
              refine ⟨?_⟩
              go_simp
              exact hK _ _ (Below.refl _ _) trivial
            · intro vs hl u1 hb hd
              obtain ⟨v0, v1, v2, v3, v4, v5, v6, v7, v8, v9, v10, v11, v12, v13, v14, v15, v16, v17, v18, v19, v20, v21, v22, v23, v24, v25, v26, v27, v28, v29, v30, rfl⟩ := len31 hl
              clear hl
              obtain ⟨kh23, _⟩ := hd
              obtain rfl : v23 = .bool false := kh23
              intro K hK
              simp only [fs, fo, fz, Act.put, s1, s2, s3] at hK ⊢
              refine ⟨?_⟩
              go_simp
              exact hK _ _ (Below.refl _ _) trivial
            · intro vs hl u1 hb hd
              obtain ⟨v0, v1, v2, v3, v4, v5, v6, v7, v8, v9, v10, v11, v12, v13, v14, v15, v16, v17, v18, v19, v20, v21, v22, v23, v24, v25, v26, v27, v28, v29, v30, rfl⟩ := len31 hl
              clear hl
              obtain ⟨_, _, _, kh23, _⟩ := hd
              obtain rfl : v23 = .bool false := kh23
              intro K hK
              simp only [fs, fo, fz, Act.put, s1, s2, s3] at hK ⊢
              refine ⟨?_⟩
              go_simp
              exact hK _ _ (Below.refl _ _) trivial
            · intro vs hl u1 hb hd
              obtain ⟨v0, v1, v2, v3, v4, v5, v6, v7, v8, v9, v10, v11, v12, v13, v14, v15, v16, v17, v18, v19, v20, v21, v22, v23, v24, v25, v26, v27, v28, v29, v30, rfl⟩ := len31 hl
              clear hl
              obtain ⟨kh23, _, _⟩ := hd
              obtain rfl : v23 = .bool false := kh23
              intro K hK
              simp only [fs, fo, fz, Act.put, s1, s2, s3] at hK ⊢
              refine ⟨?_⟩
              go_simp
              exact hK _ _ (Below.refl _ _) rfl
            · intro vs hl u1 hb hd
              obtain ⟨v0, v1, v2, v3, v4, v5, v6, v7, v8, v9, v10, v11, v12, v13, v14, v15, v16, v17, v18, v19, v20, v21, v22, v23, v24, v25, v26, v27, v28, v29, v30, rfl⟩ := len31 hl
              clear hl
              obtain ⟨kh29, _, kh0, kh1, kh2, kh3, kh4, kh5, kh6, kh7, kh8, kh9, kh10, kh11, kh12, kh13, kh14, kh15, kh16, _, _, _, _, _, kh22, kh23, _, _, _, _, _, _, _⟩ := hd
              obtain rfl : v29 = .bool false := kh29
              obtain rfl : v0 = .agg #[.int .i64 a2, .int .i64 a3] := kh0
              obtain rfl : v1 = .agg #[.int .i64 b2, .int .i64 b3] := kh1
              obtain rfl : v2 = .int .i64 d := kh2
              obtain rfl : v3 = .bool true := kh3
              obtain rfl : v4 = .bool true := kh4
              obtain rfl : v5 = .agg #[.int .i64 a2, .int .i64 a3] := kh5
              obtain rfl : v6 = .agg #[.int .i64 b2, .int .i64 b3] := kh6
              obtain rfl : v7 = .int .i64 c := kh7
              obtain rfl : v8 = .int .u64 q1 := kh8
              obtain rfl : v9 = .int .u64 (IntKind.u64.wrap (q1 * 100)) := kh9
              obtain rfl : v10 = .agg #[.int .i64 a2, .int .i64 a3] := kh10
              obtain rfl : v11 = .agg #[.int .i64 b2, .int .i64 b3] := kh11
              obtain rfl : v12 = .int .i64 d := kh12
              obtain rfl : v13 = .int .u64 q2 := kh13
              obtain rfl : v14 = .bool false := kh14
              obtain rfl : v15 = .bool false := kh15
              obtain rfl : v16 = .bool false := kh16
              obtain rfl : v22 = .bool false := kh22
              obtain rfl : v23 = .bool false := kh23
              intro K hK
              simp only [fs, fo, fz, Act.put, s1, s2, s3] at hK ⊢
              refine ⟨?_⟩
              go_simp
              exact hK _ _ (Below.refl _ _) rfl
            · intro vs hl w4 hb hd ha
              obtain ⟨v0, v1, v2, v3, v4, v5, v6, v7, v8, v9, v10, v11, v12, v13, v14, v15, v16, v17, v18, v19, v20, v21, v22, v23, v24, v25, v26, v27, v28, v29, v30, rfl⟩ := len31 hl
              clear hl
              obtain ⟨kh0, kh1, kh2, kh3, kh4, kh5, kh6, kh7, kh8, kh9, kh10, kh11, kh12, kh13, kh14, kh15, kh16, _, _, _, _, _, kh22, kh23, _, _, _, _, _, kh29, kh30, _⟩ := hd
              obtain rfl : v0 = .agg #[.int .i64 a2, .int .i64 a3] := kh0
              obtain rfl : v1 = .agg #[.int .i64 b2, .int .i64 b3] := kh1
              obtain rfl : v2 = .int .i64 d := kh2
              obtain rfl : v3 = .bool true := kh3
              obtain rfl : v4 = .bool true := kh4
              obtain rfl : v5 = .agg #[.int .i64 a2, .int .i64 a3] := kh5
              obtain rfl : v6 = .agg #[.int .i64 b2, .int .i64 b3] := kh6
              obtain rfl : v7 = .int .i64 c := kh7
              obtain rfl : v8 = .int .u64 q1 := kh8
              obtain rfl : v9 = .int .u64 (IntKind.u64.wrap (q1 * 100)) := kh9
              obtain rfl : v10 = .agg #[.int .i64 a2, .int .i64 a3] := kh10
              obtain rfl : v11 = .agg #[.int .i64 b2, .int .i64 b3] := kh11
              obtain rfl : v12 = .int .i64 d := kh12
              obtain rfl : v13 = .int .u64 q2 := kh13
              obtain rfl : v14 = .bool false := kh14
              obtain rfl : v15 = .bool false := kh15
              obtain rfl : v16 = .bool false := kh16
              obtain rfl : v22 = .bool false := kh22
              obtain rfl : v23 = .bool false := kh23
              obtain rfl : v29 = .bool false := kh29
              obtain rfl : v30 = .bool false := kh30
              clear ha
              simp only [fs, fo, fz, Act.put, s1, s2, s3]
              replace BA := BA.below hb
              replace BB := BB.below hb
              replace B4 := B4.below hb
              replace B5 := B5.below hb
              replace HB := Aside0.mk (HB.out.trans ((Below.trans (show Below w3.heap.size w3 w3.drew from pw_below_drewN (Below.refl _ _) 1) hb).mono HB.out.size))
              clear hb
              go_wp2
              go_ret
              exact ⟨by first | rfl | (simp only [hp0, hp1]; rfl), HB.out⟩
          case true =>
            cases h1
            case false =>
              replace BA := BA.drew
              replace BB := BB.drew
              replace B4 := B4.drew
              replace B5 := B5.drew
              refine region_sp (by kernel_rfl) [some 19, some 20, some 21, some 22, some 23, some 24, some 25, some 26, some 27, some 28, some 29, some 30, some 31, some 32, some 33, some 34, some 35, some 36, some 37, some 38, some 39, some 40, some 41, some 42, some 43, some 44, some 45, some 46, some 47, some 48, some 4] [undef, undef, undef, undef, undef, undef, undef, undef, undef, undef, undef, undef, undef, undef, undef, undef, undef, undef, undef, undef, undef, undef, undef, undef, undef, undef, undef, undef, undef, undef, .bool false] [Sp.val (fun v => v = .agg #[.int .i64 a2, .int .i64 a3]), Sp.val (fun v => v = .agg #[.int .i64 b2, .int .i64 b3]), Sp.val (fun v => v = .int .i64 d), Sp.val (fun v => v = .bool true), Sp.val (fun v => v = .bool true), Sp.val (fun v => v = .agg #[.int .i64 a2, .int .i64 a3]), Sp.val (fun v => v = .agg #[.int .i64 b2, .int .i64 b3]), Sp.val (fun v => v = .int .i64 c), Sp.val (fun v => v = .int .u64 q1), Sp.val (fun v => v = .int .u64 (IntKind.u64.wrap (q1 * 100))), Sp.val (fun v => v = .agg #[.int .i64 a2, .int .i64 a3]), Sp.val (fun v => v = .agg #[.int .i64 b2, .int .i64 b3]), Sp.val (fun v => v = .int .i64 d), Sp.val (fun v => v = .int .u64 q2), Sp.val (fun v => v = .bool true), Sp.val (fun v => v = .bool true), Sp.val (fun v => v = .bool true), Sp.val (fun v => v = .agg #[.int .i64 b0, .int .i64 b1, .int .i64 b2, .int .i64 b3, .int .i64 b4, .int .i64 b5]), Sp.val (fun v => v = .agg #[.int .i64 a0, .int .i64 a1, .int .i64 a2, .int .i64 a3, .int .i64 a4, .int .i64 a5]), Sp.val (fun v => v = .agg #[.int .i64 m1, .int .i64 m2]), Sp.val (fun v => v = .agg #[.int .i64 a2, .int .i64 a3]), Sp.val (fun v => v = .bool false), Sp.val (fun v => v = .bool false), Sp.val (fun v => v = .bool false), Sp.val (fun _ => True), Sp.val (fun _ => True), Sp.val (fun _ => True), Sp.val (fun _ => True), Sp.val (fun _ => True), Sp.val (fun v => v = .bool false), Sp.val (fun v => v = .bool false)] (by kernel_rfl) rfl (by kernel_rfl) ⟨?_, ?_, ?_, ?_, ?_, ?_, ?_, ?_, ?_, ?_, ?_, ?_, ?_, ?_, ?_, ?_, ?_, ?_, ?_, ?_, ?_, ?_, ?_, ?_, ?_, ?_, ?_, ?_, ?_, ?_, ?_, trivial⟩ ?_
              · intro vs hl u1 hb hd
                obtain ⟨v0, v1, v2, v3, v4, v5, v6, v7, v8, v9, v10, v11, v12, v13, v14, v15, v16, v17, v18, v19, v20, v21, v22, v23, v24, v25, v26, v27, v28, v29, v30, rfl⟩ := len31 hl
                clear hl
                intro K hK
                obtain ⟨l0, l1⟩ := (B4.below hb).two
                simp only [fs, fo, fz, Act.put, s1, s2, s3] at hK ⊢
                refine ⟨?_⟩
                go_simp
                exact hK _ _ (Below.refl _ _) rfl
              · intro vs hl u1 hb hd
                obtain ⟨v0, v1, v2, v3, v4, v5, v6, v7, v8, v9, v10, v11, v12, v13, v14, v15, v16, v17, v18, v19, v20, v21, v22, v23, v24, v25, v26, v27, v28, v29, v30, rfl⟩ := len31 hl
                clear hl
                intro K hK
                obtain ⟨l0, l1⟩ := (B5.below hb).two
                simp only [fs, fo, fz, Act.put, s1, s2, s3] at hK ⊢
                refine ⟨?_⟩
                go_simp
                exact hK _ _ (Below.refl _ _) rfl
              · intro vs hl u1 hb hd
                obtain ⟨v0, v1, v2, v3, v4, v5, v6, v7, v8, v9, v10, v11, v12, v13, v14, v15, v16, v17, v18, v19, v20, v21, v22, v23, v24, v25, v26, v27, v28, v29, v30, rfl⟩ := len31 hl
                clear hl
                obtain ⟨kh0, kh1, _⟩ := hd
                obtain rfl : v0 = .agg #[.int .i64 a2, .int .i64 a3] := kh0
                obtain rfl : v1 = .agg #[.int .i64 b2, .int .i64 b3] := kh1
                intro K hK
                simp only [fs, fo, fz, Act.put, s1, s2, s3] at hK ⊢
                refine ⟨?_⟩
                go_simp
                refine (Hydt.out _).mono ?_
                rintro e w2 ⟨rfl, hb2⟩
                exact hK _ _ hb2 rfl
              · intro vs hl u1 hb hd
                obtain ⟨v0, v1, v2, v3, v4, v5, v6, v7, v8, v9, v10, v11, v12, v13, v14, v15, v16, v17, v18, v19, v20, v21, v22, v23, v24, v25, v26, v27, v28, v29, v30, rfl⟩ := len31 hl
                clear hl
                obtain ⟨kh2, _⟩ := hd
                obtain rfl : v2 = .int .i64 d := kh2
                intro K hK
                simp only [fs, fo, fz, Act.put, s1, s2, s3] at hK ⊢
                refine ⟨?_⟩
                go_simp
                exact hK _ _ (Below.refl _ _) rfl
              · intro vs hl u1 hb hd
                obtain ⟨v0, v1, v2, v3, v4, v5, v6, v7, v8, v9, v10, v11, v12, v13, v14, v15, v16, v17, v18, v19, v20, v21, v22, v23, v24, v25, v26, v27, v28, v29, v30, rfl⟩ := len31 hl
                clear hl
                obtain ⟨kh3, kh2, _⟩ := hd
                obtain rfl : v3 = .bool true := kh3
                obtain rfl : v2 = .int .i64 d := kh2
                intro K hK
                simp only [fs, fo, fz, Act.put, s1, s2, s3] at hK ⊢
                refine ⟨?_⟩
                go_simp
                exact hK _ _ (Below.refl _ _) rfl
              · intro vs hl u1 hb hd
                obtain ⟨v0, v1, v2, v3, v4, v5, v6, v7, v8, v9, v10, v11, v12, v13, v14, v15, v16, v17, v18, v19, v20, v21, v22, v23, v24, v25, v26, v27, v28, v29, v30, rfl⟩ := len31 hl
                clear hl
                obtain ⟨kh4, _⟩ := hd
                obtain rfl : v4 = .bool true := kh4
                intro K hK
                obtain ⟨l0, l1⟩ := (B4.below hb).two
                simp only [fs, fo, fz, Act.put, s1, s2, s3] at hK ⊢
                refine ⟨?_⟩
                go_simp
                exact hK _ _ (Below.refl _ _) rfl
              · intro vs hl u1 hb hd
                obtain ⟨v0, v1, v2, v3, v4, v5, v6, v7, v8, v9, v10, v11, v12, v13, v14, v15, v16, v17, v18, v19, v20, v21, v22, v23, v24, v25, v26, v27, v28, v29, v30, rfl⟩ := len31 hl
                clear hl
                obtain ⟨kh4, _⟩ := hd
                obtain rfl : v4 = .bool true := kh4
                intro K hK
                obtain ⟨l0, l1⟩ := (B5.below hb).two
                simp only [fs, fo, fz, Act.put, s1, s2, s3] at hK ⊢
                refine ⟨?_⟩
                go_simp
                exact hK _ _ (Below.refl _ _) rfl
              · intro vs hl u1 hb hd
                obtain ⟨v0, v1, v2, v3, v4, v5, v6, v7, v8, v9, v10, v11, v12, v13, v14, v15, v16, v17, v18, v19, v20, v21, v22, v23, v24, v25, v26, v27, v28, v29, v30, rfl⟩ := len31 hl
                clear hl
                obtain ⟨kh5, kh6, kh4, _, _⟩ := hd
                obtain rfl : v5 = .agg #[.int .i64 a2, .int .i64 a3] := kh5
                obtain rfl : v6 = .agg #[.int .i64 b2, .int .i64 b3] := kh6
                obtain rfl : v4 = .bool true := kh4
                intro K hK
                simp only [fs, fo, fz, Act.put, s1, s2, s3] at hK ⊢
                refine ⟨?_⟩
                go_simp
                refine (Hycr.out _).mono ?_
                rintro e w2 ⟨rfl, hb2⟩
                exact hK _ _ hb2 rfl
              · intro vs hl u1 hb hd
                obtain ⟨v0, v1, v2, v3, v4, v5, v6, v7, v8, v9, v10, v11, v12, v13, v14, v15, v16, v17, v18, v19, v20, v21, v22, v23, v24, v25, v26, v27, v28, v29, v30, rfl⟩ := len31 hl
                clear hl
                obtain ⟨kh7, _, kh4, _⟩ := hd
                obtain rfl : v7 = .int .i64 c := kh7
                obtain rfl : v4 = .bool true := kh4
                intro K hK
                simp only [fs, fo, fz, Act.put, s1, s2, s3] at hK ⊢
                refine ⟨?_⟩
                go_simp
                refine (Hysc.out _).mono ?_
                rintro e w2 ⟨rfl, hb2⟩
                exact hK _ _ hb2 rfl
              · intro vs hl u1 hb hd
                obtain ⟨v0, v1, v2, v3, v4, v5, v6, v7, v8, v9, v10, v11, v12, v13, v14, v15, v16, v17, v18, v19, v20, v21, v22, v23, v24, v25, v26, v27, v28, v29, v30, rfl⟩ := len31 hl
                clear hl
                obtain ⟨kh8, kh4, _⟩ := hd
                obtain rfl : v8 = .int .u64 q1 := kh8
                obtain rfl : v4 = .bool true := kh4
                intro K hK
                simp only [fs, fo, fz, Act.put, s1, s2, s3] at hK ⊢
                refine ⟨?_⟩
                go_simp
                exact hK _ _ (Below.refl _ _) rfl
              · intro vs hl u1 hb hd
                obtain ⟨v0, v1, v2, v3, v4, v5, v6, v7, v8, v9, v10, v11, v12, v13, v14, v15, v16, v17, v18, v19, v20, v21, v22, v23, v24, v25, v26, v27, v28, v29, v30, rfl⟩ := len31 hl
                clear hl
                obtain ⟨kh4, _⟩ := hd
                obtain rfl : v4 = .bool true := kh4
                intro K hK
                obtain ⟨l0, l1⟩ := (B4.below hb).two
                simp only [fs, fo, fz, Act.put, s1, s2, s3] at hK ⊢
                refine ⟨?_⟩
                go_simp
                exact hK _ _ (Below.refl _ _) rfl
              · intro vs hl u1 hb hd
                obtain ⟨v0, v1, v2, v3, v4, v5, v6, v7, v8, v9, v10, v11, v12, v13, v14, v15, v16, v17, v18, v19, v20, v21, v22, v23, v24, v25, v26, v27, v28, v29, v30, rfl⟩ := len31 hl
                clear hl
                obtain ⟨kh4, _⟩ := hd
                obtain rfl : v4 = .bool true := kh4
                intro K hK
                obtain ⟨l0, l1⟩ := (B5.below hb).two
                simp only [fs, fo, fz, Act.put, s1, s2, s3] at hK ⊢
                refine ⟨?_⟩
                go_simp
                exact hK _ _ (Below.refl _ _) rfl
              · intro vs hl u1 hb hd
                obtain ⟨v0, v1, v2, v3, v4, v5, v6, v7, v8, v9, v10, v11, v12, v13, v14, v15, v16, v17, v18, v19, v20, v21, v22, v23, v24, v25, v26, v27, v28, v29, v30, rfl⟩ := len31 hl
                clear hl
                obtain ⟨kh10, kh11, kh8, kh4, _⟩ := hd
                obtain rfl : v10 = .agg #[.int .i64 a2, .int .i64 a3] := kh10
                obtain rfl : v11 = .agg #[.int .i64 b2, .int .i64 b3] := kh11
                obtain rfl : v8 = .int .u64 q1 := kh8
                obtain rfl : v4 = .bool true := kh4
                intro K hK
                simp only [fs, fo, fz, Act.put, s1, s2, s3] at hK ⊢
                refine ⟨?_⟩
                go_simp
                refine (Hydt.out _).mono ?_
                rintro e w2 ⟨rfl, hb2⟩
                exact hK _ _ hb2 rfl
              · intro vs hl u1 hb hd
                obtain ⟨v0, v1, v2, v3, v4, v5, v6, v7, v8, v9, v10, v11, v12, v13, v14, v15, v16, v17, v18, v19, v20, v21, v22, v23, v24, v25, v26, v27, v28, v29, v30, rfl⟩ := len31 hl
                clear hl
                obtain ⟨kh12, _, kh4, _⟩ := hd
                obtain rfl : v12 = .int .i64 d := kh12
                obtain rfl : v4 = .bool true := kh4
                intro K hK
                simp only [fs, fo, fz, Act.put, s1, s2, s3] at hK ⊢
                refine ⟨?_⟩
                go_simp
                refine (Hysd.out _).mono ?_
                rintro e w2 ⟨rfl, hb2⟩
                exact hK _ _ hb2 rfl
              · intro vs hl u1 hb hd
                obtain ⟨v0, v1, v2, v3, v4, v5, v6, v7, v8, v9, v10, v11, v12, v13, v14, v15, v16, v17, v18, v19, v20, v21, v22, v23, v24, v25, v26, v27, v28, v29, v30, rfl⟩ := len31 hl
                clear hl
                obtain ⟨kh9, kh13, kh4, _⟩ := hd
                obtain rfl : v9 = .int .u64 (IntKind.u64.wrap (q1 * 100)) := kh9
                obtain rfl : v13 = .int .u64 q2 := kh13
                obtain rfl : v4 = .bool true := kh4
                intro K hK
                simp only [fs, fo, fz, Act.put, s1, s2, s3] at hK ⊢
                refine ⟨?_⟩
                go_simp
                exact hK _ _ (Below.refl _ _) rfl
              · intro vs hl u1 hb hd
                obtain ⟨v0, v1, v2, v3, v4, v5, v6, v7, v8, v9, v10, v11, v12, v13, v14, v15, v16, v17, v18, v19, v20, v21, v22, v23, v24, v25, v26, v27, v28, v29, v30, rfl⟩ := len31 hl
                clear hl
                obtain ⟨kh4, kh14, _⟩ := hd
                obtain rfl : v4 = .bool true := kh4
                obtain rfl : v14 = .bool true := kh14
                intro K hK
                simp only [fs, fo, fz, Act.put, s1, s2, s3] at hK ⊢
                refine ⟨?_⟩
                go_simp
                exact hK _ _ (Below.refl _ _) rfl
              · intro vs hl u1 hb hd
                obtain ⟨v0, v1, v2, v3, v4, v5, v6, v7, v8, v9, v10, v11, v12, v13, v14, v15, v16, v17, v18, v19, v20, v21, v22, v23, v24, v25, v26, v27, v28, v29, v30, rfl⟩ := len31 hl
                clear hl
                obtain ⟨kh15, kh13, _⟩ := hd
                obtain rfl : v15 = .bool true := kh15
                obtain rfl : v13 = .int .u64 q2 := kh13
                intro K hK
                simp only [fs, fo, fz, Act.put, s1, s2, s3] at hK ⊢
                refine ⟨?_⟩
                go_simp
                exact hK _ _ (Below.refl _ _) rfl
              · intro vs hl u1 hb hd
                obtain ⟨v0, v1, v2, v3, v4, v5, v6, v7, v8, v9, v10, v11, v12, v13, v14, v15, v16, v17, v18, v19, v20, v21, v22, v23, v24, v25, v26, v27, v28, v29, v30, rfl⟩ := len31 hl
                clear hl
                obtain ⟨kh16, _⟩ := hd
                obtain rfl : v16 = .bool true := kh16
                intro K hK
                obtain ⟨l0, l1, l2, l3, l4, l5⟩ := (BB.below hb).six
                simp only [fs, fo, fz, Act.put, s1, s2, s3] at hK ⊢
                refine ⟨?_⟩
                go_simp
                exact hK _ _ (Below.refl _ _) rfl
              · intro vs hl u1 hb hd
                obtain ⟨v0, v1, v2, v3, v4, v5, v6, v7, v8, v9, v10, v11, v12, v13, v14, v15, v16, v17, v18, v19, v20, v21, v22, v23, v24, v25, v26, v27, v28, v29, v30, rfl⟩ := len31 hl
                clear hl
                obtain ⟨kh16, _⟩ := hd
                obtain rfl : v16 = .bool true := kh16
                intro K hK
                obtain ⟨l0, l1, l2, l3, l4, l5⟩ := (BA.below hb).six
                simp only [fs, fo, fz, Act.put, s1, s2, s3] at hK ⊢
                refine ⟨?_⟩
                go_simp
                exact hK _ _ (Below.refl _ _) rfl
              · intro vs hl u1 hb hd
                obtain ⟨v0, v1, v2, v3, v4, v5, v6, v7, v8, v9, v10, v11, v12, v13, v14, v15, v16, v17, v18, v19, v20, v21, v22, v23, v24, v25, v26, v27, v28, v29, v30, rfl⟩ := len31 hl
                clear hl
                obtain ⟨kh17, kh18, kh16, _, _⟩ := hd
                obtain rfl : v17 = .agg #[.int .i64 b0, .int .i64 b1, .int .i64 b2, .int .i64 b3, .int .i64 b4, .int .i64 b5] := kh17
                obtain rfl : v18 = .agg #[.int .i64 a0, .int .i64 a1, .int .i64 a2, .int .i64 a3, .int .i64 a4, .int .i64 a5] := kh18
                obtain rfl : v16 = .bool true := kh16
                intro K hK
                simp only [fs, fo, fz, Act.put, s1, s2, s3] at hK ⊢
                refine ⟨?_⟩
                go_simp
                refine (Hyb1.out _).mono ?_
                rintro e w2 ⟨rfl, hb2⟩
                exact hK _ _ hb2 rfl
              · intro vs hl u1 hb hd
                obtain ⟨v0, v1, v2, v3, v4, v5, v6, v7, v8, v9, v10, v11, v12, v13, v14, v15, v16, v17, v18, v19, v20, v21, v22, v23, v24, v25, v26, v27, v28, v29, v30, rfl⟩ := len31 hl
                clear hl
                obtain ⟨kh16, _⟩ := hd
                obtain rfl : v16 = .bool true := kh16
                intro K hK
                obtain ⟨l0, l1⟩ := (B4.below hb).two
                simp only [fs, fo, fz, Act.put, s1, s2, s3] at hK ⊢
                refine ⟨?_⟩
                go_simp
                exact hK _ _ (Below.refl _ _) rfl
              · intro vs hl u1 hb hd
                obtain ⟨v0, v1, v2, v3, v4, v5, v6, v7, v8, v9, v10, v11, v12, v13, v14, v15, v16, v17, v18, v19, v20, v21, v22, v23, v24, v25, v26, v27, v28, v29, v30, rfl⟩ := len31 hl
                clear hl
                obtain ⟨kh19, kh20, _, kh16, _⟩ := hd
                obtain rfl : v19 = .agg #[.int .i64 m1, .int .i64 m2] := kh19
                obtain rfl : v20 = .agg #[.int .i64 a2, .int .i64 a3] := kh20
                obtain rfl : v16 = .bool true := kh16
                intro K hK
                simp only [fs, fo, fz, Act.put, s1, s2, s3] at hK ⊢
                refine ⟨?_⟩
                go_simp
                refine (Hyh1.out _).mono ?_
                rintro e w2 ⟨rfl, hb2⟩
                exact hK _ _ hb2 rfl
              · intro vs hl u1 hb hd
                obtain ⟨v0, v1, v2, v3, v4, v5, v6, v7, v8, v9, v10, v11, v12, v13, v14, v15, v16, v17, v18, v19, v20, v21, v22, v23, v24, v25, v26, v27, v28, v29, v30, rfl⟩ := len31 hl
                clear hl
                obtain ⟨kh16, kh21, _⟩ := hd
                obtain rfl : v16 = .bool true := kh16
                obtain rfl : v21 = .bool false := kh21
                intro K hK
                simp only [fs, fo, fz, Act.put, s1, s2, s3] at hK ⊢
                refine ⟨?_⟩
                go_simp
                exact hK _ _ (Below.refl _ _) rfl
              · intro vs hl u1 hb hd
                obtain ⟨v0, v1, v2, v3, v4, v5, v6, v7, v8, v9, v10, v11, v12, v13, v14, v15, v16, v17, v18, v19, v20, v21, v22, v23, v24, v25, v26, v27, v28, v29, v30, rfl⟩ := len31 hl
                clear hl
                obtain ⟨kh22, kh21, _⟩ := hd
                obtain rfl : v22 = .bool false := kh22
                obtain rfl : v21 = .bool false := kh21
                intro K hK
                simp only [fs, fo, fz, Act.put, s1, s2, s3] at hK ⊢
                refine ⟨?_⟩
                go_simp
                exact hK _ _ (Below.refl _ _) rfl
              · intro vs hl u1 hb hd
                obtain ⟨v0, v1, v2, v3, v4, v5, v6, v7, v8, v9, v10, v11, v12, v13, v14, v15, v16, v17, v18, v19, v20, v21, v22, v23, v24, v25, v26, v27, v28, v29, v30, rfl⟩ := len31 hl
                clear hl
                obtain ⟨kh23, _⟩ := hd
                obtain rfl : v23 = .bool false := kh23
                intro K hK
                simp only [fs, fo, fz, Act.put, s1, s2, s3] at hK ⊢
                refine ⟨?_⟩
                go_simp
                exact hK _ _ (Below.refl _ _) trivial
              · intro vs hl u1 hb hd
                obtain ⟨v0, v1, v2, v3, v4, v5, v6, v7, v8, v9, v10, v11, v12, v13, v14, v15, v16, v17, v18, v19, v20, v21, v22, v23, v24, v25, v26, v27, v28, v29, v30, rfl⟩ := len31 hl
                clear hl
                obtain ⟨kh23, _⟩ := hd
                obtain rfl : v23 = .bool false := kh23
                intro K hK
                simp only [fs, fo, fz, Act.put, s1, s2, s3] at hK ⊢
                refine ⟨?_⟩
                go_simp
                exact hK _ _ (Below.refl _ _) trivial
              · intro vs hl u1 hb hd
                obtain ⟨v0, v1, v2, v3, v4, v5, v6, v7, v8, v9, v10, v11, v12, v13, v14, v15, v16, v17, v18, v19, v20, v21, v22, v23, v24, v25, v26, v27, v28, v29, v30, rfl⟩ := len31 hl
                clear hl
                obtain ⟨_, _, kh23, _, _⟩ := hd
                obtain rfl : v23 = .bool false := kh23
                intro K hK
                simp only [fs, fo, fz, Act.put, s1, s2, s3] at hK ⊢
                refine ⟨?_⟩
                go_simp
                exact hK _ _ (Below.refl _ _) trivial
              · intro vs hl u1 hb hd
                obtain ⟨v0, v1, v2, v3, v4, v5, v6, v7, v8, v9, v10, v11, v12, v13, v14, v15, v16, v17, v18, v19, v20, v21, v22, v23, v24, v25, v26, v27, v28, v29, v30, rfl⟩ := len31 hl
                clear hl
                obtain ⟨kh23, _⟩ := hd
                obtain rfl : v23 = .bool false := kh23
                intro K hK
                simp only [fs, fo, fz, Act.put, s1, s2, s3] at hK ⊢
                refine ⟨?_⟩
                go_simp
                exact hK _ _ (Below.refl _ _) trivial
              · intro vs hl u1 hb hd
                obtain ⟨v0, v1, v2, v3, v4, v5, v6, v7, v8, v9, v10, v11, v12, v13, v14, v15, v16, v17, v18, v19, v20, v21, v22, v23, v24, v25, v26, v27, v28, v29, v30, rfl⟩ := len31 hl
                clear hl
                obtain ⟨_, _, _, kh23, _⟩ := hd
                obtain rfl : v23 = .bool false := kh23
                intro K hK
                simp only [fs, fo, fz, Act.put, s1, s2, s3] at hK ⊢
                refine ⟨?_⟩
                go_simp
                exact hK _ _ (Below.refl _ _) trivial
              · intro vs hl u1 hb hd
                obtain ⟨v0, v1, v2, v3, v4, v5, v6, v7, v8, v9, v10, v11, v12, v13, v14, v15, v16, v17, v18, v19, v20, v21, v22, v23, v24, v25, v26, v27, v28, v29, v30, rfl⟩ := len31 hl
                clear hl
                obtain ⟨kh23, _, _⟩ := hd
                obtain rfl : v23 = .bool false := kh23
                intro K hK
                simp only [fs, fo, fz, Act.put, s1, s2, s3] at hK ⊢
                refine ⟨?_⟩
                go_simp
                exact hK _ _ (Below.refl _ _) rfl
              · intro vs hl u1 hb hd
                obtain ⟨v0, v1, v2, v3, v4, v5, v6, v7, v8, v9, v10, v11, v12, v13, v14, v15, v16, v17, v18, v19, v20, v21, v22, v23, v24, v25, v26, v27, v28, v29, v30, rfl⟩ := len31 hl
                clear hl
                obtain ⟨kh29, _, kh0, kh1, kh2, kh3, kh4, kh5, kh6, kh7, kh8, kh9, kh10, kh11, kh12, kh13, kh14, kh15, kh16, kh17, kh18, kh19, kh20, kh21, kh22, kh23, _, _, _, _, _, _, _⟩ := hd
                obtain rfl : v29 = .bool false := kh29
                obtain rfl : v0 = .agg #[.int .i64 a2, .int .i64 a3] := kh0
                obtain rfl : v1 = .agg #[.int .i64 b2, .int .i64 b3] := kh1
                obtain rfl : v2 = .int .i64 d := kh2
                obtain rfl : v3 = .bool true := kh3
                obtain rfl : v4 = .bool true := kh4
                obtain rfl : v5 = .agg #[.int .i64 a2, .int .i64 a3] := kh5
                obtain rfl : v6 = .agg #[.int .i64 b2, .int .i64 b3] := kh6
                obtain rfl : v7 = .int .i64 c := kh7
                obtain rfl : v8 = .int .u64 q1 := kh8
                obtain rfl : v9 = .int .u64 (IntKind.u64.wrap (q1 * 100)) := kh9
                obtain rfl : v10 = .agg #[.int .i64 a2, .int .i64 a3] := kh10
                obtain rfl : v11 = .agg #[.int .i64 b2, .int .i64 b3] := kh11
                obtain rfl : v12 = .int .i64 d := kh12
                obtain rfl : v13 = .int .u64 q2 := kh13
                obtain rfl : v14 = .bool true := kh14
                obtain rfl : v15 = .bool true := kh15
                obtain rfl : v16 = .bool true := kh16
                obtain rfl : v17 = .agg #[.int .i64 b0, .int .i64 b1, .int .i64 b2, .int .i64 b3, .int .i64 b4, .int .i64 b5] := kh17
                obtain rfl : v18 = .agg #[.int .i64 a0, .int .i64 a1, .int .i64 a2, .int .i64 a3, .int .i64 a4, .int .i64 a5] := kh18
                obtain rfl : v19 = .agg #[.int .i64 m1, .int .i64 m2] := kh19
                obtain rfl : v20 = .agg #[.int .i64 a2, .int .i64 a3] := kh20
                obtain rfl : v21 = .bool false := kh21
                obtain rfl : v22 = .bool false := kh22
                obtain rfl : v23 = .bool false := kh23
                intro K hK
                simp only [fs, fo, fz, Act.put, s1, s2, s3] at hK ⊢
                refine ⟨?_⟩
                go_simp
                exact hK _ _ (Below.refl _ _) rfl
              · intro vs hl w4 hb hd ha
                obtain ⟨v0, v1, v2, v3, v4, v5, v6, v7, v8, v9, v10, v11, v12, v13, v14, v15, v16, v17, v18, v19, v20, v21, v22, v23, v24, v25, v26, v27, v28, v29, v30, rfl⟩ := len31 hl
                clear hl
                obtain ⟨kh0, kh1, kh2, kh3, kh4, kh5, kh6, kh7, kh8, kh9, kh10, kh11, kh12, kh13, kh14, kh15, kh16, kh17, kh18, kh19, kh20, kh21, kh22, kh23, _, _, _, _, _, kh29, kh30, _⟩ := hd
                obtain rfl : v0 = .agg #[.int .i64 a2, .int .i64 a3] := kh0
                obtain rfl : v1 = .agg #[.int .i64 b2, .int .i64 b3] := kh1
                obtain rfl : v2 = .int .i64 d := kh2
                obtain rfl : v3 = .bool true := kh3
                obtain rfl : v4 = .bool true := kh4
                obtain rfl : v5 = .agg #[.int .i64 a2, .int .i64 a3] := kh5
                obtain rfl : v6 = .agg #[.int .i64 b2, .int .i64 b3] := kh6
                obtain rfl : v7 = .int .i64 c := kh7
                obtain rfl : v8 = .int .u64 q1 := kh8
                obtain rfl : v9 = .int .u64 (IntKind.u64.wrap (q1 * 100)) := kh9
                obtain rfl : v10 = .agg #[.int .i64 a2, .int .i64 a3] := kh10
                obtain rfl : v11 = .agg #[.int .i64 b2, .int .i64 b3] := kh11
                obtain rfl : v12 = .int .i64 d := kh12
                obtain rfl : v13 = .int .u64 q2 := kh13
                obtain rfl : v14 = .bool true := kh14
                obtain rfl : v15 = .bool true := kh15
                obtain rfl : v16 = .bool true := kh16
                obtain rfl : v17 = .agg #[.int .i64 b0, .int .i64 b1, .int .i64 b2, .int .i64 b3, .int .i64 b4, .int .i64 b5] := kh17
                obtain rfl : v18 = .agg #[.int .i64 a0, .int .i64 a1, .int .i64 a2, .int .i64 a3, .int .i64 a4, .int .i64 a5] := kh18
                obtain rfl : v19 = .agg #[.int .i64 m1, .int .i64 m2] := kh19
                obtain rfl : v20 = .agg #[.int .i64 a2, .int .i64 a3] := kh20
                obtain rfl : v21 = .bool false := kh21
                obtain rfl : v22 = .bool false := kh22
                obtain rfl : v23 = .bool false := kh23
                obtain rfl : v29 = .bool false := kh29
                obtain rfl : v30 = .bool false := kh30
                clear ha
                simp only [fs, fo, fz, Act.put, s1, s2, s3]
                replace BA := BA.below hb
                replace BB := BB.below hb
                replace B4 := B4.below hb
                replace B5 := B5.below hb
                replace HB := Aside0.mk (HB.out.trans ((Below.trans (show Below w3.heap.size w3 w3.drew from pw_below_drewN (Below.refl _ _) 1) hb).mono HB.out.size))
                clear hb
                go_wp2
                go_ret
                exact ⟨by first | rfl | (simp only [hp0, hp1]; rfl), HB.out⟩
            case true =>
              replace BA := BA.drew
              replace BB := BB.drew
              replace B4 := B4.drew
              replace B5 := B5.drew
              refine region_sp (by kernel_rfl) [some 19, some 20, some 21, some 22, some 23, some 24, some 25, some 26, some 27, some 28, some 29, some 30, some 31, some 32, some 33, some 34, some 35, some 36, some 37, some 38, some 39, some 40, some 41, some 42, some 43, some 44, some 45, some 46, some 47, some 48, some 4] [undef, undef, undef, undef, undef, undef, undef, undef, undef, undef, undef, undef, undef, undef, undef, undef, undef, undef, undef, undef, undef, undef, undef, undef, undef, undef, undef, undef, undef, undef, .bool false] [Sp.val (fun v => v = .agg #[.int .i64 a2, .int .i64 a3]), Sp.val (fun v => v = .agg #[.int .i64 b2, .int .i64 b3]), Sp.val (fun v => v = .int .i64 d), Sp.val (fun v => v = .bool true), Sp.val (fun v => v = .bool true), Sp.val (fun v => v = .agg #[.int .i64 a2, .int .i64 a3]), Sp.val (fun v => v = .agg #[.int .i64 b2, .int .i64 b3]), Sp.val (fun v => v = .int .i64 c), Sp.val (fun v => v = .int .u64 q1), Sp.val (fun v => v = .int .u64 (IntKind.u64.wrap (q1 * 100))), Sp.val (fun v => v = .agg #[.int .i64 a2, .int .i64 a3]), Sp.val (fun v => v = .agg #[.int .i64 b2, .int .i64 b3]), Sp.val (fun v => v = .int .i64 d), Sp.val (fun v => v = .int .u64 q2), Sp.val (fun v => v = .bool true), Sp.val (fun v => v = .bool true), Sp.val (fun v => v = .bool true), Sp.val (fun v => v = .agg #[.int .i64 b0, .int .i64 b1, .int .i64 b2, .int .i64 b3, .int .i64 b4, .int .i64 b5]), Sp.val (fun v => v = .agg #[.int .i64 a0, .int .i64 a1, .int .i64 a2, .int .i64 a3, .int .i64 a4, .int .i64 a5]), Sp.val (fun v => v = .agg #[.int .i64 m1, .int .i64 m2]), Sp.val (fun v => v = .agg #[.int .i64 a2, .int .i64 a3]), Sp.val (fun v => v = .bool true), Sp.val (fun v => v = .bool true), Sp.val (fun v => v = .bool true), Sp.val (fun v => v = .agg #[.int .i64 a0, .int .i64 a1, .int .i64 a2, .int .i64 a3, .int .i64 a4, .int .i64 a5]), Sp.val (fun v => v = .agg #[.int .i64 b0, .int .i64 b1, .int .i64 b2, .int .i64 b3, .int .i64 b4, .int .i64 b5]), Sp.val (fun v => v = .agg #[.int .i64 n1, .int .i64 n2]), Sp.val (fun v => v = .agg #[.int .i64 b2, .int .i64 b3]), Sp.val (fun v => v = .bool h2), Sp.val (fun v => v = .bool h2), Sp.val (fun v => v = .bool h2)] (by kernel_rfl) rfl (by kernel_rfl) ⟨?_, ?_, ?_, ?_, ?_, ?_, ?_, ?_, ?_, ?_, ?_, ?_, ?_, ?_, ?_, ?_, ?_, ?_, ?_, ?_, ?_, ?_, ?_, ?_, ?_, ?_, ?_, ?_, ?_, ?_, ?_, trivial⟩ ?_
              · intro vs hl u1 hb hd
                obtain ⟨v0, v1, v2, v3, v4, v5, v6, v7, v8, v9, v10, v11, v12, v13, v14, v15, v16, v17, v18, v19, v20, v21, v22, v23, v24, v25, v26, v27, v28, v29, v30, rfl⟩ := len31 hl
                clear hl
                intro K hK
                obtain ⟨l0, l1⟩ := (B4.below hb).two
                simp only [fs, fo, fz, Act.put, s1, s2, s3] at hK ⊢
                refine ⟨?_⟩
                go_simp
                exact hK _ _ (Below.refl _ _) rfl
              · intro vs hl u1 hb hd
                obtain ⟨v0, v1, v2, v3, v4, v5, v6, v7, v8, v9, v10, v11, v12, v13, v14, v15, v16, v17, v18, v19, v20, v21, v22, v23, v24, v25, v26, v27, v28, v29, v30, rfl⟩ := len31 hl
                clear hl
                intro K hK
                obtain ⟨l0, l1⟩ := (B5.below hb).two
                simp only [fs, fo, fz, Act.put, s1, s2, s3] at hK ⊢
                refine ⟨?_⟩
                go_simp
                exact hK _ _ (Below.refl _ _) rfl
              · intro vs hl u1 hb hd
                obtain ⟨v0, v1, v2, v3, v4, v5, v6, v7, v8, v9, v10, v11, v12, v13, v14, v15, v16, v17, v18, v19, v20, v21, v22, v23, v24, v25, v26, v27, v28, v29, v30, rfl⟩ := len31 hl
                clear hl
                obtain ⟨kh0, kh1, _⟩ := hd
                obtain rfl : v0 = .agg #[.int .i64 a2, .int .i64 a3] := kh0
                obtain rfl : v1 = .agg #[.int .i64 b2, .int .i64 b3] := kh1
                intro K hK
                simp only [fs, fo, fz, Act.put, s1, s2, s3] at hK ⊢
                refine ⟨?_⟩
                go_simp
                refine (Hydt.out _).mono ?_
                rintro e w2 ⟨rfl, hb2⟩
                exact hK _ _ hb2 rfl
              · intro vs hl u1 hb hd
                obtain ⟨v0, v1, v2, v3, v4, v5, v6, v7, v8, v9, v10, v11, v12, v13, v14, v15, v16, v17, v18, v19, v20, v21, v22, v23, v24, v25, v26, v27, v28, v29, v30, rfl⟩ := len31 hl
                clear hl
                obtain ⟨kh2, _⟩ := hd
                obtain rfl : v2 = .int .i64 d := kh2
                intro K hK
                simp only [fs, fo, fz, Act.put, s1, s2, s3] at hK ⊢
                refine ⟨?_⟩
                go_simp
                exact hK _ _ (Below.refl _ _) rfl
              · intro vs hl u1 hb hd
                obtain ⟨v0, v1, v2, v3, v4, v5, v6, v7, v8, v9, v10, v11, v12, v13, v14, v15, v16, v17, v18, v19, v20, v21, v22, v23, v24, v25, v26, v27, v28, v29, v30, rfl⟩ := len31 hl
                clear hl
                obtain ⟨kh3, kh2, _⟩ := hd
                obtain rfl : v3 = .bool true := kh3
                obtain rfl : v2 = .int .i64 d := kh2
                intro K hK
                simp only [fs, fo, fz, Act.put, s1, s2, s3] at hK ⊢
                refine ⟨?_⟩
                go_simp
                exact hK _ _ (Below.refl _ _) rfl
              · intro vs hl u1 hb hd
                obtain ⟨v0, v1, v2, v3, v4, v5, v6, v7, v8, v9, v10, v11, v12, v13, v14, v15, v16, v17, v18, v19, v20, v21, v22, v23, v24, v25, v26, v27, v28, v29, v30, rfl⟩ := len31 hl
                clear hl
                obtain ⟨kh4, _⟩ := hd
                obtain rfl : v4 = .bool true := kh4
                intro K hK
                obtain ⟨l0, l1⟩ := (B4.below hb).two
                simp only [fs, fo, fz, Act.put, s1, s2, s3] at hK ⊢
                refine ⟨?_⟩
                go_simp
                exact hK _ _ (Below.refl _ _) rfl
              · intro vs hl u1 hb hd
                obtain ⟨v0, v1, v2, v3, v4, v5, v6, v7, v8, v9, v10, v11, v12, v13, v14, v15, v16, v17, v18, v19, v20, v21, v22, v23, v24, v25, v26, v27, v28, v29, v30, rfl⟩ := len31 hl
                clear hl
                obtain ⟨kh4, _⟩ := hd
                obtain rfl : v4 = .bool true := kh4
                intro K hK
                obtain ⟨l0, l1⟩ := (B5.below hb).two
                simp only [fs, fo, fz, Act.put, s1, s2, s3] at hK ⊢
                refine ⟨?_⟩
                go_simp
                exact hK _ _ (Below.refl _ _) rfl
              · intro vs hl u1 hb hd
                obtain ⟨v0, v1, v2, v3, v4, v5, v6, v7, v8, v9, v10, v11, v12, v13, v14, v15, v16, v17, v18, v19, v20, v21, v22, v23, v24, v25, v26, v27, v28, v29, v30, rfl⟩ := len31 hl
                clear hl
                obtain ⟨kh5, kh6, kh4, _, _⟩ := hd
                obtain rfl : v5 = .agg #[.int .i64 a2, .int .i64 a3] := kh5
                obtain rfl : v6 = .agg #[.int .i64 b2, .int .i64 b3] := kh6
                obtain rfl : v4 = .bool true := kh4
                intro K hK
                simp only [fs, fo, fz, Act.put, s1, s2, s3] at hK ⊢
                refine ⟨?_⟩
                go_simp
                refine (Hycr.out _).mono ?_
                rintro e w2 ⟨rfl, hb2⟩
                exact hK _ _ hb2 rfl
              · intro vs hl u1 hb hd
                obtain ⟨v0, v1, v2, v3, v4, v5, v6, v7, v8, v9, v10, v11, v12, v13, v14, v15, v16, v17, v18, v19, v20, v21, v22, v23, v24, v25, v26, v27, v28, v29, v30, rfl⟩ := len31 hl
                clear hl
                obtain ⟨kh7, _, kh4, _⟩ := hd
                obtain rfl : v7 = .int .i64 c := kh7
                obtain rfl : v4 = .bool true := kh4
                intro K hK
                simp only [fs, fo, fz, Act.put, s1, s2, s3] at hK ⊢
                refine ⟨?_⟩
                go_simp
                refine (Hysc.out _).mono ?_
                rintro e w2 ⟨rfl, hb2⟩
                exact hK _ _ hb2 rfl
              · intro vs hl u1 hb hd
                obtain ⟨v0, v1, v2, v3, v4, v5, v6, v7, v8, v9, v10, v11, v12, v13, v14, v15, v16, v17, v18, v19, v20, v21, v22, v23, v24, v25, v26, v27, v28, v29, v30, rfl⟩ := len31 hl
                clear hl
                obtain ⟨kh8, kh4, _⟩ := hd
                obtain rfl : v8 = .int .u64 q1 := kh8
                obtain rfl : v4 = .bool true := kh4
                intro K hK
                simp only [fs, fo, fz, Act.put, s1, s2, s3] at hK ⊢
                refine ⟨?_⟩
                go_simp
                exact hK _ _ (Below.refl _ _) rfl
              · intro vs hl u1 hb hd
                obtain ⟨v0, v1, v2, v3, v4, v5, v6, v7, v8, v9, v10, v11, v12, v13, v14, v15, v16, v17, v18, v19, v20, v21, v22, v23, v24, v25, v26, v27, v28, v29, v30, rfl⟩ := len31 hl
                clear hl
                obtain ⟨kh4, _⟩ := hd
                obtain rfl : v4 = .bool true := kh4
                intro K hK
                obtain ⟨l0, l1⟩ := (B4.below hb).two
                simp only [fs, fo, fz, Act.put, s1, s2, s3] at hK ⊢
                refine ⟨?_⟩
                go_simp
                exact hK _ _ (Below.refl _ _) rfl
              · intro vs hl u1 hb hd
                obtain ⟨v0, v1, v2, v3, v4, v5, v6, v7, v8, v9, v10, v11, v12, v13, v14, v15, v16, v17, v18, v19, v20, v21, v22, v23, v24, v25, v26, v27, v28, v29, v30, rfl⟩ := len31 hl
                clear hl
                obtain ⟨kh4, _⟩ := hd
                obtain rfl : v4 = .bool true := kh4
                intro K hK
                obtain ⟨l0, l1⟩ := (B5.below hb).two
                simp only [fs, fo, fz, Act.put, s1, s2, s3] at hK ⊢
                refine ⟨?_⟩
                go_simp
                exact hK _ _ (Below.refl _ _) rfl
              · intro vs hl u1 hb hd
                obtain ⟨v0, v1, v2, v3, v4, v5, v6, v7, v8, v9, v10, v11, v12, v13, v14, v15, v16, v17, v18, v19, v20, v21, v22, v23, v24, v25, v26, v27, v28, v29, v30, rfl⟩ := len31 hl
                clear hl
                obtain ⟨kh10, kh11, kh8, kh4, _⟩ := hd
                obtain rfl : v10 = .agg #[.int .i64 a2, .int .i64 a3] := kh10
                obtain rfl : v11 = .agg #[.int .i64 b2, .int .i64 b3] := kh11
                obtain rfl : v8 = .int .u64 q1 := kh8
                obtain rfl : v4 = .bool true := kh4
                intro K hK
                simp only [fs, fo, fz, Act.put, s1, s2, s3] at hK ⊢
                refine ⟨?_⟩
                go_simp
                refine (Hydt.out _).mono ?_
                rintro e w2 ⟨rfl, hb2⟩
                exact hK _ _ hb2 rfl
              · intro vs hl u1 hb hd
                obtain ⟨v0, v1, v2, v3, v4, v5, v6, v7, v8, v9, v10, v11, v12, v13, v14, v15, v16, v17, v18, v19, v20, v21, v22, v23, v24, v25, v26, v27, v28, v29, v30, rfl⟩ := len31 hl
                clear hl
                obtain ⟨kh12, _, kh4, _⟩ := hd
                obtain rfl : v12 = .int .i64 d := kh12
                obtain rfl : v4 = .bool true := kh4
                intro K hK
                simp only [fs, fo, fz, Act.put, s1, s2, s3] at hK ⊢
                refine ⟨?_⟩
                go_simp
                refine (Hysd.out _).mono ?_
                rintro e w2 ⟨rfl, hb2⟩
                exact hK _ _ hb2 rfl
              · intro vs hl u1 hb hd
                obtain ⟨v0, v1, v2, v3, v4, v5, v6, v7, v8, v9, v10, v11, v12, v13, v14, v15, v16, v17, v18, v19, v20, v21, v22, v23, v24, v25, v26, v27, v28, v29, v30, rfl⟩ := len31 hl
                clear hl
                obtain ⟨kh9, kh13, kh4, _⟩ := hd
                obtain rfl : v9 = .int .u64 (IntKind.u64.wrap (q1 * 100)) := kh9
                obtain rfl : v13 = .int .u64 q2 := kh13
                obtain rfl : v4 = .bool true := kh4
                intro K hK
                simp only [fs, fo, fz, Act.put, s1, s2, s3] at hK ⊢
                refine ⟨?_⟩
                go_simp
                exact hK _ _ (Below.refl _ _) rfl
              · intro vs hl u1 hb hd
                obtain ⟨v0, v1, v2, v3, v4, v5, v6, v7, v8, v9, v10, v11, v12, v13, v14, v15, v16, v17, v18, v19, v20, v21, v22, v23, v24, v25, v26, v27, v28, v29, v30, rfl⟩ := len31 hl
                clear hl
                obtain ⟨kh4, kh14, _⟩ := hd
                obtain rfl : v4 = .bool true := kh4
                obtain rfl : v14 = .bool true := kh14
                intro K hK
                simp only [fs, fo, fz, Act.put, s1, s2, s3] at hK ⊢
                refine ⟨?_⟩
                go_simp
                exact hK _ _ (Below.refl _ _) rfl
              · intro vs hl u1 hb hd
                obtain ⟨v0, v1, v2, v3, v4, v5, v6, v7, v8, v9, v10, v11, v12, v13, v14, v15, v16, v17, v18, v19, v20, v21, v22, v23, v24, v25, v26, v27, v28, v29, v30, rfl⟩ := len31 hl
                clear hl
                obtain ⟨kh15, kh13, _⟩ := hd
                obtain rfl : v15 = .bool true := kh15
                obtain rfl : v13 = .int .u64 q2 := kh13
                intro K hK
                simp only [fs, fo, fz, Act.put, s1, s2, s3] at hK ⊢
                refine ⟨?_⟩
                go_simp
                exact hK _ _ (Below.refl _ _) rfl
              · intro vs hl u1 hb hd
                obtain ⟨v0, v1, v2, v3, v4, v5, v6, v7, v8, v9, v10, v11, v12, v13, v14, v15, v16, v17, v18, v19, v20, v21, v22, v23, v24, v25, v26, v27, v28, v29, v30, rfl⟩ := len31 hl
                clear hl
                obtain ⟨kh16, _⟩ := hd
                obtain rfl : v16 = .bool true := kh16
                intro K hK
                obtain ⟨l0, l1, l2, l3, l4, l5⟩ := (BB.below hb).six
                simp only [fs, fo, fz, Act.put, s1, s2, s3] at hK ⊢
                refine ⟨?_⟩
                go_simp
                exact hK _ _ (Below.refl _ _) rfl
              · intro vs hl u1 hb hd
                obtain ⟨v0, v1, v2, v3, v4, v5, v6, v7, v8, v9, v10, v11, v12, v13, v14, v15, v16, v17, v18, v19, v20, v21, v22, v23, v24, v25, v26, v27, v28, v29, v30, rfl⟩ := len31 hl
                clear hl
                obtain ⟨kh16, _⟩ := hd
                obtain rfl : v16 = .bool true := kh16
                intro K hK
                obtain ⟨l0, l1, l2, l3, l4, l5⟩ := (BA.below hb).six
                simp only [fs, fo, fz, Act.put, s1, s2, s3] at hK ⊢
                refine ⟨?_⟩
                go_simp
                exact hK _ _ (Below.refl _ _) rfl
              · intro vs hl u1 hb hd
                obtain ⟨v0, v1, v2, v3, v4, v5, v6, v7, v8, v9, v10, v11, v12, v13, v14, v15, v16, v17, v18, v19, v20, v21, v22, v23, v24, v25, v26, v27, v28, v29, v30, rfl⟩ := len31 hl
                clear hl
                obtain ⟨kh17, kh18, kh16, _, _⟩ := hd
                obtain rfl : v17 = .agg #[.int .i64 b0, .int .i64 b1, .int .i64 b2, .int .i64 b3, .int .i64 b4, .int .i64 b5] := kh17
                obtain rfl : v18 = .agg #[.int .i64 a0, .int .i64 a1, .int .i64 a2, .int .i64 a3, .int .i64 a4, .int .i64 a5] := kh18
                obtain rfl : v16 = .bool true := kh16
                intro K hK
                simp only [fs, fo, fz, Act.put, s1, s2, s3] at hK ⊢
                refine ⟨?_⟩
                go_simp
                refine (Hyb1.out _).mono ?_
                rintro e w2 ⟨rfl, hb2⟩
                exact hK _ _ hb2 rfl
              · intro vs hl u1 hb hd
                obtain ⟨v0, v1, v2, v3, v4, v5, v6, v7, v8, v9, v10, v11, v12, v13, v14, v15, v16, v17, v18, v19, v20, v21, v22, v23, v24, v25, v26, v27, v28, v29, v30, rfl⟩ := len31 hl
                clear hl
                obtain ⟨kh16, _⟩ := hd
                obtain rfl : v16 = .bool true := kh16
                intro K hK
                obtain ⟨l0, l1⟩ := (B4.below hb).two
                simp only [fs, fo, fz, Act.put, s1, s2, s3] at hK ⊢
                refine ⟨?_⟩
                go_simp
                exact hK _ _ (Below.refl _ _) rfl
              · intro vs hl u1 hb hd
                obtain ⟨v0, v1, v2, v3, v4, v5, v6, v7, v8, v9, v10, v11, v12, v13, v14, v15, v16, v17, v18, v19, v20, v21, v22, v23, v24, v25, v26, v27, v28, v29, v30, rfl⟩ := len31 hl
                clear hl
                obtain ⟨kh19, kh20, _, kh16, _⟩ := hd
                obtain rfl : v19 = .agg #[.int .i64 m1, .int .i64 m2] := kh19
                obtain rfl : v20 = .agg #[.int .i64 a2, .int .i64 a3] := kh20
                obtain rfl : v16 = .bool true := kh16
                intro K hK
                simp only [fs, fo, fz, Act.put, s1, s2, s3] at hK ⊢
                refine ⟨?_⟩
                go_simp
                refine (Hyh1.out _).mono ?_
                rintro e w2 ⟨rfl, hb2⟩
                exact hK _ _ hb2 rfl
              · intro vs hl u1 hb hd
                obtain ⟨v0, v1, v2, v3, v4, v5, v6, v7, v8, v9, v10, v11, v12, v13, v14, v15, v16, v17, v18, v19, v20, v21, v22, v23, v24, v25, v26, v27, v28, v29, v30, rfl⟩ := len31 hl
                clear hl
                obtain ⟨kh16, kh21, _⟩ := hd
                obtain rfl : v16 = .bool true := kh16
                obtain rfl : v21 = .bool true := kh21
                intro K hK
                simp only [fs, fo, fz, Act.put, s1, s2, s3] at hK ⊢
                refine ⟨?_⟩
                go_simp
                exact hK _ _ (Below.refl _ _) rfl
              · intro vs hl u1 hb hd
                obtain ⟨v0, v1, v2, v3, v4, v5, v6, v7, v8, v9, v10, v11, v12, v13, v14, v15, v16, v17, v18, v19, v20, v21, v22, v23, v24, v25, v26, v27, v28, v29, v30, rfl⟩ := len31 hl
                clear hl
                obtain ⟨kh22, kh21, _⟩ := hd
                obtain rfl : v22 = .bool true := kh22
                obtain rfl : v21 = .bool true := kh21
                intro K hK
                simp only [fs, fo, fz, Act.put, s1, s2, s3] at hK ⊢
                refine ⟨?_⟩
                go_simp
                exact hK _ _ (Below.refl _ _) rfl
              · intro vs hl u1 hb hd
                obtain ⟨v0, v1, v2, v3, v4, v5, v6, v7, v8, v9, v10, v11, v12, v13, v14, v15, v16, v17, v18, v19, v20, v21, v22, v23, v24, v25, v26, v27, v28, v29, v30, rfl⟩ := len31 hl
                clear hl
                obtain ⟨kh23, _⟩ := hd
                obtain rfl : v23 = .bool true := kh23
                intro K hK
                obtain ⟨l0, l1, l2, l3, l4, l5⟩ := (BA.below hb).six
                simp only [fs, fo, fz, Act.put, s1, s2, s3] at hK ⊢
                refine ⟨?_⟩
                go_simp
                exact hK _ _ (Below.refl _ _) rfl
              · intro vs hl u1 hb hd
                obtain ⟨v0, v1, v2, v3, v4, v5, v6, v7, v8, v9, v10, v11, v12, v13, v14, v15, v16, v17, v18, v19, v20, v21, v22, v23, v24, v25, v26, v27, v28, v29, v30, rfl⟩ := len31 hl
                clear hl
                obtain ⟨kh23, _⟩ := hd
                obtain rfl : v23 = .bool true := kh23
                intro K hK
                obtain ⟨l0, l1, l2, l3, l4, l5⟩ := (BB.below hb).six
                simp only [fs, fo, fz, Act.put, s1, s2, s3] at hK ⊢
                refine ⟨?_⟩
                go_simp
                exact hK _ _ (Below.refl _ _) rfl
              · intro vs hl u1 hb hd
                obtain ⟨v0, v1, v2, v3, v4, v5, v6, v7, v8, v9, v10, v11, v12, v13, v14, v15, v16, v17, v18, v19, v20, v21, v22, v23, v24, v25, v26, v27, v28, v29, v30, rfl⟩ := len31 hl
                clear hl
                obtain ⟨kh24, kh25, kh23, _, _⟩ := hd
                obtain rfl : v24 = .agg #[.int .i64 a0, .int .i64 a1, .int .i64 a2, .int .i64 a3, .int .i64 a4, .int .i64 a5] := kh24
                obtain rfl : v25 = .agg #[.int .i64 b0, .int .i64 b1, .int .i64 b2, .int .i64 b3, .int .i64 b4, .int .i64 b5] := kh25
                obtain rfl : v23 = .bool true := kh23
                intro K hK
                simp only [fs, fo, fz, Act.put, s1, s2, s3] at hK ⊢
                refine ⟨?_⟩
                go_simp
                refine (Hyb2.out _).mono ?_
                rintro e w2 ⟨rfl, hb2⟩
                exact hK _ _ hb2 rfl
              · intro vs hl u1 hb hd
                obtain ⟨v0, v1, v2, v3, v4, v5, v6, v7, v8, v9, v10, v11, v12, v13, v14, v15, v16, v17, v18, v19, v20, v21, v22, v23, v24, v25, v26, v27, v28, v29, v30, rfl⟩ := len31 hl
                clear hl
                obtain ⟨kh23, _⟩ := hd
                obtain rfl : v23 = .bool true := kh23
                intro K hK
                obtain ⟨l0, l1⟩ := (B5.below hb).two
                simp only [fs, fo, fz, Act.put, s1, s2, s3] at hK ⊢
                refine ⟨?_⟩
                go_simp
                exact hK _ _ (Below.refl _ _) rfl
              · intro vs hl u1 hb hd
                obtain ⟨v0, v1, v2, v3, v4, v5, v6, v7, v8, v9, v10, v11, v12, v13, v14, v15, v16, v17, v18, v19, v20, v21, v22, v23, v24, v25, v26, v27, v28, v29, v30, rfl⟩ := len31 hl
                clear hl
                obtain ⟨kh26, kh27, _, kh23, _⟩ := hd
                obtain rfl : v26 = .agg #[.int .i64 n1, .int .i64 n2] := kh26
                obtain rfl : v27 = .agg #[.int .i64 b2, .int .i64 b3] := kh27
                obtain rfl : v23 = .bool true := kh23
                intro K hK
                simp only [fs, fo, fz, Act.put, s1, s2, s3] at hK ⊢
                refine ⟨?_⟩
                go_simp
                refine (Hyh2.out _).mono ?_
                rintro e w2 ⟨rfl, hb2⟩
                exact hK _ _ hb2 rfl
              · intro vs hl u1 hb hd
                obtain ⟨v0, v1, v2, v3, v4, v5, v6, v7, v8, v9, v10, v11, v12, v13, v14, v15, v16, v17, v18, v19, v20, v21, v22, v23, v24, v25, v26, v27, v28, v29, v30, rfl⟩ := len31 hl
                clear hl
                obtain ⟨kh23, kh28, _⟩ := hd
                obtain rfl : v23 = .bool true := kh23
                obtain rfl : v28 = .bool h2 := kh28
                intro K hK
                simp only [fs, fo, fz, Act.put, s1, s2, s3] at hK ⊢
                refine ⟨?_⟩
                go_simp
                exact hK _ _ (Below.refl _ _) rfl
              · intro vs hl u1 hb hd
                obtain ⟨v0, v1, v2, v3, v4, v5, v6, v7, v8, v9, v10, v11, v12, v13, v14, v15, v16, v17, v18, v19, v20, v21, v22, v23, v24, v25, v26, v27, v28, v29, v30, rfl⟩ := len31 hl
                clear hl
                obtain ⟨kh29, kh28, kh0, kh1, kh2, kh3, kh4, kh5, kh6, kh7, kh8, kh9, kh10, kh11, kh12, kh13, kh14, kh15, kh16, kh17, kh18, kh19, kh20, kh21, kh22, kh23, kh24, kh25, kh26, kh27, _, _, _⟩ := hd
                obtain rfl : v29 = .bool h2 := kh29
                obtain rfl : v28 = .bool h2 := kh28
                obtain rfl : v0 = .agg #[.int .i64 a2, .int .i64 a3] := kh0
                obtain rfl : v1 = .agg #[.int .i64 b2, .int .i64 b3] := kh1
                obtain rfl : v2 = .int .i64 d := kh2
                obtain rfl : v3 = .bool true := kh3
                obtain rfl : v4 = .bool true := kh4
                obtain rfl : v5 = .agg #[.int .i64 a2, .int .i64 a3] := kh5
                obtain rfl : v6 = .agg #[.int .i64 b2, .int .i64 b3] := kh6
                obtain rfl : v7 = .int .i64 c := kh7
                obtain rfl : v8 = .int .u64 q1 := kh8
                obtain rfl : v9 = .int .u64 (IntKind.u64.wrap (q1 * 100)) := kh9
                obtain rfl : v10 = .agg #[.int .i64 a2, .int .i64 a3] := kh10
                obtain rfl : v11 = .agg #[.int .i64 b2, .int .i64 b3] := kh11
                obtain rfl : v12 = .int .i64 d := kh12
                obtain rfl : v13 = .int .u64 q2 := kh13
                obtain rfl : v14 = .bool true := kh14
                obtain rfl : v15 = .bool true := kh15
                obtain rfl : v16 = .bool true := kh16
                obtain rfl : v17 = .agg #[.int .i64 b0, .int .i64 b1, .int .i64 b2, .int .i64 b3, .int .i64 b4, .int .i64 b5] := kh17
                obtain rfl : v18 = .agg #[.int .i64 a0, .int .i64 a1, .int .i64 a2, .int .i64 a3, .int .i64 a4, .int .i64 a5] := kh18
                obtain rfl : v19 = .agg #[.int .i64 m1, .int .i64 m2] := kh19
                obtain rfl : v20 = .agg #[.int .i64 a2, .int .i64 a3] := kh20
                obtain rfl : v21 = .bool true := kh21
                obtain rfl : v22 = .bool true := kh22
                obtain rfl : v23 = .bool true := kh23
                obtain rfl : v24 = .agg #[.int .i64 a0, .int .i64 a1, .int .i64 a2, .int .i64 a3, .int .i64 a4, .int .i64 a5] := kh24
                obtain rfl : v25 = .agg #[.int .i64 b0, .int .i64 b1, .int .i64 b2, .int .i64 b3, .int .i64 b4, .int .i64 b5] := kh25
                obtain rfl : v26 = .agg #[.int .i64 n1, .int .i64 n2] := kh26
                obtain rfl : v27 = .agg #[.int .i64 b2, .int .i64 b3] := kh27
                intro K hK
                simp only [fs, fo, fz, Act.put, s1, s2, s3] at hK ⊢
                refine ⟨?_⟩
                go_simp
                exact hK _ _ (Below.refl _ _) rfl
              · intro vs hl w4 hb hd ha
                obtain ⟨v0, v1, v2, v3, v4, v5, v6, v7, v8, v9, v10, v11, v12, v13, v14, v15, v16, v17, v18, v19, v20, v21, v22, v23, v24, v25, v26, v27, v28, v29, v30, rfl⟩ := len31 hl
                clear hl
                obtain ⟨kh0, kh1, kh2, kh3, kh4, kh5, kh6, kh7, kh8, kh9, kh10, kh11, kh12, kh13, kh14, kh15, kh16, kh17, kh18, kh19, kh20, kh21, kh22, kh23, kh24, kh25, kh26, kh27, kh28, kh29, kh30, _⟩ := hd
                obtain rfl : v0 = .agg #[.int .i64 a2, .int .i64 a3] := kh0
                obtain rfl : v1 = .agg #[.int .i64 b2, .int .i64 b3] := kh1
                obtain rfl : v2 = .int .i64 d := kh2
                obtain rfl : v3 = .bool true := kh3
                obtain rfl : v4 = .bool true := kh4
                obtain rfl : v5 = .agg #[.int .i64 a2, .int .i64 a3] := kh5
                obtain rfl : v6 = .agg #[.int .i64 b2, .int .i64 b3] := kh6
                obtain rfl : v7 = .int .i64 c := kh7
                obtain rfl : v8 = .int .u64 q1 := kh8
                obtain rfl : v9 = .int .u64 (IntKind.u64.wrap (q1 * 100)) := kh9
                obtain rfl : v10 = .agg #[.int .i64 a2, .int .i64 a3] := kh10
                obtain rfl : v11 = .agg #[.int .i64 b2, .int .i64 b3] := kh11
                obtain rfl : v12 = .int .i64 d := kh12
                obtain rfl : v13 = .int .u64 q2 := kh13
                obtain rfl : v14 = .bool true := kh14
                obtain rfl : v15 = .bool true := kh15
                obtain rfl : v16 = .bool true := kh16
                obtain rfl : v17 = .agg #[.int .i64 b0, .int .i64 b1, .int .i64 b2, .int .i64 b3, .int .i64 b4, .int .i64 b5] := kh17
                obtain rfl : v18 = .agg #[.int .i64 a0, .int .i64 a1, .int .i64 a2, .int .i64 a3, .int .i64 a4, .int .i64 a5] := kh18
                obtain rfl : v19 = .agg #[.int .i64 m1, .int .i64 m2] := kh19
                obtain rfl : v20 = .agg #[.int .i64 a2, .int .i64 a3] := kh20
                obtain rfl : v21 = .bool true := kh21
                obtain rfl : v22 = .bool true := kh22
                obtain rfl : v23 = .bool true := kh23
                obtain rfl : v24 = .agg #[.int .i64 a0, .int .i64 a1, .int .i64 a2, .int .i64 a3, .int .i64 a4, .int .i64 a5] := kh24
                obtain rfl : v25 = .agg #[.int .i64 b0, .int .i64 b1, .int .i64 b2, .int .i64 b3, .int .i64 b4, .int .i64 b5] := kh25
                obtain rfl : v26 = .agg #[.int .i64 n1, .int .i64 n2] := kh26
                obtain rfl : v27 = .agg #[.int .i64 b2, .int .i64 b3] := kh27
                obtain rfl : v28 = .bool h2 := kh28
                obtain rfl : v29 = .bool h2 := kh29
                obtain rfl : v30 = .bool h2 := kh30
                clear ha
                simp only [fs, fo, fz, Act.put, s1, s2, s3]
                replace BA := BA.below hb
                replace BB := BB.below hb
                replace B4 := B4.below hb
                replace B5 := B5.below hb
                replace HB := Aside0.mk (HB.out.trans ((Below.trans (show Below w3.heap.size w3 w3.drew from pw_below_drewN (Below.refl _ _) 1) hb).mono HB.out.size))
                clear hb
                go_wp2
                go_ret
                exact ⟨by first | rfl | (simp only [hp0, hp1]; rfl), HB.out⟩
end Go.Proofs.Ytfbokdbaondjdaa.Ai
/- Short names for what the walks' texts say often. -/
namespace Go.Proofs.Ytfbokdbaondjdaa.Cz
open Go.RowKit Go.Proofs.YtfbokdbaondjdaaW.PrintWords Go.Proofs.YtfbokdbaondjdaaW.PrintLast
def bz (n m : Nat) : Array Bool := ((List.range n).map fun i => m.testBit i).toArray
theorem nz1 {w : World} {a : Addr} {v : Value} {g : Nat} (h : w.cell? a = some v) (hg : w.heap.size ≤ g) : a.block ≠ g := Nat.ne_of_lt (Nat.lt_of_lt_of_le (World.block_lt_of_cell? _ _ h) hg)
theorem nz2 {w : World} {a : Addr} {j : Nat} {v : Value} {g : Nat} (h : w.cell? (a.add j) = some v) (hg : w.heap.size ≤ g) : a.block ≠ g := by
  have := World.block_lt_of_cell? _ _ h
  rw [add_block] at this
  exact Nat.ne_of_lt (Nat.lt_of_lt_of_le this hg)
theorem nz3 {w : World} {a : Addr} {j : Nat} {v : Value} {g : Nat} (h : w.cell? a = some v) (hg : w.heap.size ≤ g) : (a.add j).block ≠ g := by
  rw [add_block]
  exact nz1 h hg
theorem z1 {w : World} {g : Nat} {o : Obj} (h : w.heap[g]? = some o) (n : Nat) : (w.drewN n).heap[g]? = some o := blk_drewN h n
theorem z2 {w : World} {g : Nat} {o : Obj} (h : w.heap[g]? = some o) : w.drew.heap[g]? = some o := blk_drew h
theorem z3 {w : World} {g : Nat} {o : Obj} (h : w.heap[g]? = some o) (o' : Obj) : (w.alloc o').heap[g]? = some o := blk_alloc h o'
theorem y1 {α : Type} (l : List α) (i : Nat) (a : α) : l.toArray.setIfInBounds i a = (l.set i a).toArray := List.setIfInBounds_toArray ..
theorem y2 {α : Type} (a b : α) (l : List α) : (a :: l).set 0 b = b :: l := rfl
theorem y3 {α : Type} (a b : α) (l : List α) (n : Nat) : (a :: l).set (n + 1) b = a :: l.set n b := rfl
theorem six {W : World} {g : Nat} {t : TypeId} {a b c d e f : Value} (h : Aside0 (W.heap[g]? = some (.cells #[a, b, c, d, e, f] t (0, 0)))) : W.cell? ⟨g, 0, none⟩ = some a ∧ W.cell? ⟨g, 1, none⟩ = some b ∧ W.cell? ⟨g, 2, none⟩ = some c ∧ W.cell? ⟨g, 3, none⟩ = some d ∧ W.cell? ⟨g, 4, none⟩ = some e ∧ W.cell? ⟨g, 5, none⟩ = some f ∧ W.frozen? ⟨g, 0, none⟩ = false ∧ W.frozen? ⟨g, 1, none⟩ = false ∧ W.frozen? ⟨g, 2, none⟩ = false ∧ W.frozen? ⟨g, 3, none⟩ = false ∧ W.frozen? ⟨g, 4, none⟩ = false ∧ W.frozen? ⟨g, 5, none⟩ = false := ⟨(blk_cell h.out 0).trans rfl, (blk_cell h.out 1).trans rfl, (blk_cell h.out 2).trans rfl, (blk_cell h.out 3).trans rfl, (blk_cell h.out 4).trans rfl, (blk_cell h.out 5).trans rfl, blk_frozen h.out 0, blk_frozen h.out 1, blk_frozen h.out 2, blk_frozen h.out 3, blk_frozen h.out 4, blk_frozen h.out 5⟩
theorem two {W : World} {g : Nat} {t : TypeId} {a b : Value} (h : Aside0 (W.heap[g]? = some (.cells #[a, b] t (0, 0)))) : W.cell? ⟨g, 0, none⟩ = some a ∧ W.cell? ⟨g, 1, none⟩ = some b ∧ W.frozen? ⟨g, 0, none⟩ = false ∧ W.frozen? ⟨g, 1, none⟩ = false := ⟨(blk_cell h.out 0).trans rfl, (blk_cell h.out 1).trans rfl, blk_frozen h.out 0, blk_frozen h.out 1⟩
class Up (w w' : World) : Prop where
  h : ∀ {g : Nat} {o : Obj}, w.heap[g]? = some o → w'.heap[g]? = some o
  b : ∀ {w0 : World}, Below w0.heap.size w0 w → Below w0.heap.size w0 w'
instance up0 (w : World) : Up w w := ⟨id, id⟩
instance up1 (w w1 : World) (n : Nat) [Up w w1] : Up w (w1.drewN n) := ⟨fun h => blk_drewN (Up.h h) n, fun h => pw_below_drewN (Up.b h) n⟩
instance up2 (w w1 : World) [Up w w1] : Up w w1.drew := ⟨fun h => blk_drew (Up.h h), fun h => below_drew1 (Up.b h)⟩
instance up3 (w w1 : World) (o : Obj) [Up w w1] : Up w (w1.alloc o) := ⟨fun h => blk_alloc (Up.h h) o, fun h => below_alloc (Up.b h) o⟩
theorem up {w w' : World} {g : Nat} {o : Obj} [Up w w'] (h : Aside0 (w.heap[g]? = some o)) : w'.heap[g]? = some o := Up.h h.out
theorem ub {w0 w w' : World} [Up w w'] (h : Aside0 (Below w0.heap.size w0 w)) : Below w0.heap.size w0 w' := Up.b h.out
theorem fr {W : World} {a p : Addr} {u v : Value} (h : a.block ≠ p.block) (c : W.cell? a = some v) : (W.setCell p u).cell? a = some v := (cell_far h u).trans c
theorem fr6 {W : World} {a : Addr} {g i0 i1 i2 i3 i4 i5 : Nat} {u0 u1 u2 u3 u4 u5 v : Value} (h : a.block ≠ g) (c : W.cell? a = some v) : ((((((W.setCell ⟨g, i0, none⟩ u0).setCell ⟨g, i1, none⟩ u1).setCell ⟨g, i2, none⟩ u2).setCell ⟨g, i3, none⟩ u3).setCell ⟨g, i4, none⟩ u4).setCell ⟨g, i5, none⟩ u5).cell? a = some v := fr h (fr h (fr h (fr h (fr h (fr h c)))))
end Go.Proofs.Ytfbokdbaondjdaa.Cz
-- printed for this claim out of the translation
namespace Go.Proofs.Ytfbokdbaondjdaa.PV1
open Go.RowKit Go.Proofs.YtfbokdbaondjdaaW.PrintWords Go.Proofs.YtfbokdbaondjdaaW.PrintLast Go.Proofs.YtfbokdbaondjdaaW.PrintMore Go.Proofs.Ytfbokdbaondjdaa.Cz
attribute [local go_sem] max2_int min2_int max_two min_two max_three min_three max_four min_four
set_option linter.unusedVariables false
set_option linter.unusedSimpArgs false



def errW : Option Int → Value
 | none => .nilIface
 | some c => .iface 0 (.int .i64 c)
theorem errW_none : errW none = .nilIface := rfl
theorem errW_some (c : Int) : errW (some c) = .iface 0 (.int .i64 c) := rfl

theorem info3 : (Try.prog.info? 3).map (fun i => (i.zero, i.size, i.bytes)) = some (some (.int .i64 0), 1, 8) := by kernel_rfl
theorem info25 : (Try.prog.info? 25).map (fun i => (i.zero, i.size, i.bytes)) = some (some (.agg #[(.int .i64 0), (.int .i64 0), (.int .i64 0), (.int .i64 0), (.int .i64 0), (.int .i64 0)]), 6, 48) := by kernel_rfl
theorem info43 : (Try.prog.info? 43).map (fun i => (i.zero, i.size, i.bytes)) = some (some (.slice none 0 0), 1, 24) := by kernel_rfl
-- the values' own types
/-! #### struct type 25 -/
structure S25 where
 f0 : Int
 f1 : Int
 f2 : Int
 f3 : Int
 f4 : Int
 f5 : Int
def z25 : S25 := ⟨(0 : Int), (0 : Int), (0 : Int), (0 : Int), (0 : Int), (0 : Int)⟩
def k25 : Kd S25 := Kd.iso (Kd.pair (Kd.int .i64) (Kd.pair (Kd.int .i64) (Kd.pair (Kd.int .i64) (Kd.pair (Kd.int .i64) (Kd.pair (Kd.int .i64) (Kd.int .i64)))))) (fun x : S25 => (x.f0, x.f1, x.f2, x.f3, x.f4, x.f5))
theorem k25_open {w : World} {x : S25} {cs : List Value} (h : k25.K w x cs) : cs = [.int .i64 x.f0, .int .i64 x.f1, .int .i64 x.f2, .int .i64 x.f3, .int .i64 x.f4, .int .i64 x.f5] := by
 obtain ⟨_, _, rfl, rfl, ⟨_, _, rfl, rfl, ⟨_, _, rfl, rfl, ⟨_, _, rfl, rfl, ⟨_, _, rfl, rfl, rfl⟩⟩⟩⟩⟩ := h
 exact rfl
theorem k25_openM {w : World} {base : Nat} {ok : Nat → Prop} {x : S25} {cs : List Value} (h : k25.M w base ok x cs) : cs = [.int .i64 x.f0, .int .i64 x.f1, .int .i64 x.f2, .int .i64 x.f3, .int .i64 x.f4, .int .i64 x.f5] := by
 obtain ⟨_, _, rfl, rfl, ⟨_, _, rfl, rfl, ⟨_, _, rfl, rfl, ⟨_, _, rfl, rfl, ⟨_, _, rfl, rfl, rfl⟩⟩⟩⟩⟩ := h
 exact rfl
theorem k25_mk (w : World) (x : S25)  : k25.K w x [.int .i64 x.f0, .int .i64 x.f1, .int .i64 x.f2, .int .i64 x.f3, .int .i64 x.f4, .int .i64 x.f5] := ⟨[.int .i64 x.f0], [.int .i64 x.f1, .int .i64 x.f2, .int .i64 x.f3, .int .i64 x.f4, .int .i64 x.f5], rfl, rfl, ⟨[.int .i64 x.f1], [.int .i64 x.f2, .int .i64 x.f3, .int .i64 x.f4, .int .i64 x.f5], rfl, rfl, ⟨[.int .i64 x.f2], [.int .i64 x.f3, .int .i64 x.f4, .int .i64 x.f5], rfl, rfl, ⟨[.int .i64 x.f3], [.int .i64 x.f4, .int .i64 x.f5], rfl, rfl, ⟨[.int .i64 x.f4], [.int .i64 x.f5], rfl, rfl, rfl⟩⟩⟩⟩⟩
theorem k25_mkM (w : World) (base : Nat) (ok : Nat → Prop) (x : S25)  : k25.M w base ok x [.int .i64 x.f0, .int .i64 x.f1, .int .i64 x.f2, .int .i64 x.f3, .int .i64 x.f4, .int .i64 x.f5] := ⟨[.int .i64 x.f0], [.int .i64 x.f1, .int .i64 x.f2, .int .i64 x.f3, .int .i64 x.f4, .int .i64 x.f5], rfl, rfl, ⟨[.int .i64 x.f1], [.int .i64 x.f2, .int .i64 x.f3, .int .i64 x.f4, .int .i64 x.f5], rfl, rfl, ⟨[.int .i64 x.f2], [.int .i64 x.f3, .int .i64 x.f4, .int .i64 x.f5], rfl, rfl, ⟨[.int .i64 x.f3], [.int .i64 x.f4, .int .i64 x.f5], rfl, rfl, ⟨[.int .i64 x.f4], [.int .i64 x.f5], rfl, rfl, rfl⟩⟩⟩⟩⟩
def rd_T25 (xs : List S25) (i : Int) : S25 := xs.getD i.toNat z25
theorem at_T25 {w : World} {A : Option Addr} {n : Nat} {xs : List S25} (h : Kd.C k25 w A n xs) (i : Int) (h0 : 0 ≤ i) (h1 : i < n) : ∃ ad , A = some ad ∧ w.cell? (ad.add (i.toNat * 6)) = some (.int .i64 (rd_T25 xs i).f0) ∧ w.cell? ⟨(ad.add (i.toNat * 6)).block, (ad.add (i.toNat * 6)).off + 1, none⟩ = some (.int .i64 (rd_T25 xs i).f1) ∧ w.cell? ⟨(ad.add (i.toNat * 6)).block, (ad.add (i.toNat * 6)).off + 2, none⟩ = some (.int .i64 (rd_T25 xs i).f2) ∧ w.cell? ⟨(ad.add (i.toNat * 6)).block, (ad.add (i.toNat * 6)).off + 3, none⟩ = some (.int .i64 (rd_T25 xs i).f3) ∧ w.cell? ⟨(ad.add (i.toNat * 6)).block, (ad.add (i.toNat * 6)).off + 4, none⟩ = some (.int .i64 (rd_T25 xs i).f4) ∧ w.cell? ⟨(ad.add (i.toNat * 6)).block, (ad.add (i.toNat * 6)).off + 5, none⟩ = some (.int .i64 (rd_T25 xs i).f5) := by
 obtain ⟨ad, c, e, _, hK, hc0⟩ := Kd.C_get h z25 i h0 h1
 have hc : ∀ j u, c[j]? = some u → w.cell? (ad.add (i.toNat * 6 + j)) = some u := hc0
 obtain rfl := k25_open hK
 exact ⟨ad, e, hc 0 _ rfl, by rw [← add_field _ _ 1 (by omega)]; exact hc 1 _ rfl, by rw [← add_field _ _ 2 (by omega)]; exact hc 2 _ rfl, by rw [← add_field _ _ 3 (by omega)]; exact hc 3 _ rfl, by rw [← add_field _ _ 4 (by omega)]; exact hc 4 _ rfl, by rw [← add_field _ _ 5 (by omega)]; exact hc 5 _ rfl⟩

def rd_L3 (xs : List (List Int)) (i : Int) : (List Int) := xs.getD i.toNat ([] : List Int)
theorem at_L3 {w : World} {A : Option Addr} {n : Nat} {xs : List (List Int)} (h : Kd.C (Kd.slice 3 (Kd.int .i64)) w A n xs) (i : Int) (h0 : 0 ≤ i) (h1 : i < n) : ∃ ad A0 c0, A = some ad ∧ w.cell? (ad.add i.toNat) = some (.slice A0 (rd_L3 xs i).length c0) ∧ (rd_L3 xs i).length ≤ c0 ∧ (Kd.int .i64).C w A0 (rd_L3 xs i).length (rd_L3 xs i) := by
 obtain ⟨ad, c, e, _, hK, hc0⟩ := Kd.C_get h ([] : List Int) i h0 h1
 have hc : ∀ j u, c[j]? = some u → w.cell? (ad.add (i.toNat * 1 + j)) = some u := hc0
 obtain ⟨A0, c0, rfl, l0, g0⟩ := hK
 exact ⟨ad, A0, c0, e, by have hq := hc 0 _ rfl; rwa [Nat.mul_one, Nat.add_zero] at hq, l0, g0⟩

/-! #### struct type 23 -/
structure S23 where
 f0 : Int
 f1 : Int
 f2 : Int
 f3 : Int
 f4 : Int
 f5 : Int
def z23 : S23 := ⟨(0 : Int), (0 : Int), (0 : Int), (0 : Int), (0 : Int), (0 : Int)⟩
def k23 : Kd S23 := Kd.iso (Kd.pair (Kd.int .i64) (Kd.pair (Kd.int .i64) (Kd.pair (Kd.int .i64) (Kd.pair (Kd.int .i64) (Kd.pair (Kd.int .i64) (Kd.int .i64)))))) (fun x : S23 => (x.f0, x.f1, x.f2, x.f3, x.f4, x.f5))
theorem k23_open {w : World} {x : S23} {cs : List Value} (h : k23.K w x cs) : cs = [.int .i64 x.f0, .int .i64 x.f1, .int .i64 x.f2, .int .i64 x.f3, .int .i64 x.f4, .int .i64 x.f5] := by
 obtain ⟨_, _, rfl, rfl, ⟨_, _, rfl, rfl, ⟨_, _, rfl, rfl, ⟨_, _, rfl, rfl, ⟨_, _, rfl, rfl, rfl⟩⟩⟩⟩⟩ := h
 exact rfl
theorem k23_openM {w : World} {base : Nat} {ok : Nat → Prop} {x : S23} {cs : List Value} (h : k23.M w base ok x cs) : cs = [.int .i64 x.f0, .int .i64 x.f1, .int .i64 x.f2, .int .i64 x.f3, .int .i64 x.f4, .int .i64 x.f5] := by
 obtain ⟨_, _, rfl, rfl, ⟨_, _, rfl, rfl, ⟨_, _, rfl, rfl, ⟨_, _, rfl, rfl, ⟨_, _, rfl, rfl, rfl⟩⟩⟩⟩⟩ := h
 exact rfl
theorem k23_mk (w : World) (x : S23)  : k23.K w x [.int .i64 x.f0, .int .i64 x.f1, .int .i64 x.f2, .int .i64 x.f3, .int .i64 x.f4, .int .i64 x.f5] := ⟨[.int .i64 x.f0], [.int .i64 x.f1, .int .i64 x.f2, .int .i64 x.f3, .int .i64 x.f4, .int .i64 x.f5], rfl, rfl, ⟨[.int .i64 x.f1], [.int .i64 x.f2, .int .i64 x.f3, .int .i64 x.f4, .int .i64 x.f5], rfl, rfl, ⟨[.int .i64 x.f2], [.int .i64 x.f3, .int .i64 x.f4, .int .i64 x.f5], rfl, rfl, ⟨[.int .i64 x.f3], [.int .i64 x.f4, .int .i64 x.f5], rfl, rfl, ⟨[.int .i64 x.f4], [.int .i64 x.f5], rfl, rfl, rfl⟩⟩⟩⟩⟩
theorem k23_mkM (w : World) (base : Nat) (ok : Nat → Prop) (x : S23)  : k23.M w base ok x [.int .i64 x.f0, .int .i64 x.f1, .int .i64 x.f2, .int .i64 x.f3, .int .i64 x.f4, .int .i64 x.f5] := ⟨[.int .i64 x.f0], [.int .i64 x.f1, .int .i64 x.f2, .int .i64 x.f3, .int .i64 x.f4, .int .i64 x.f5], rfl, rfl, ⟨[.int .i64 x.f1], [.int .i64 x.f2, .int .i64 x.f3, .int .i64 x.f4, .int .i64 x.f5], rfl, rfl, ⟨[.int .i64 x.f2], [.int .i64 x.f3, .int .i64 x.f4, .int .i64 x.f5], rfl, rfl, ⟨[.int .i64 x.f3], [.int .i64 x.f4, .int .i64 x.f5], rfl, rfl, ⟨[.int .i64 x.f4], [.int .i64 x.f5], rfl, rfl, rfl⟩⟩⟩⟩⟩
def rd_T23 (xs : List S23) (i : Int) : S23 := xs.getD i.toNat z23
theorem at_T23 {w : World} {A : Option Addr} {n : Nat} {xs : List S23} (h : Kd.C k23 w A n xs) (i : Int) (h0 : 0 ≤ i) (h1 : i < n) : ∃ ad , A = some ad ∧ w.cell? (ad.add (i.toNat * 6)) = some (.int .i64 (rd_T23 xs i).f0) ∧ w.cell? ⟨(ad.add (i.toNat * 6)).block, (ad.add (i.toNat * 6)).off + 1, none⟩ = some (.int .i64 (rd_T23 xs i).f1) ∧ w.cell? ⟨(ad.add (i.toNat * 6)).block, (ad.add (i.toNat * 6)).off + 2, none⟩ = some (.int .i64 (rd_T23 xs i).f2) ∧ w.cell? ⟨(ad.add (i.toNat * 6)).block, (ad.add (i.toNat * 6)).off + 3, none⟩ = some (.int .i64 (rd_T23 xs i).f3) ∧ w.cell? ⟨(ad.add (i.toNat * 6)).block, (ad.add (i.toNat * 6)).off + 4, none⟩ = some (.int .i64 (rd_T23 xs i).f4) ∧ w.cell? ⟨(ad.add (i.toNat * 6)).block, (ad.add (i.toNat * 6)).off + 5, none⟩ = some (.int .i64 (rd_T23 xs i).f5) := by
 obtain ⟨ad, c, e, _, hK, hc0⟩ := Kd.C_get h z23 i h0 h1
 have hc : ∀ j u, c[j]? = some u → w.cell? (ad.add (i.toNat * 6 + j)) = some u := hc0
 obtain rfl := k23_open hK
 exact ⟨ad, e, hc 0 _ rfl, by rw [← add_field _ _ 1 (by omega)]; exact hc 1 _ rfl, by rw [← add_field _ _ 2 (by omega)]; exact hc 2 _ rfl, by rw [← add_field _ _ 3 (by omega)]; exact hc 3 _ rfl, by rw [← add_field _ _ 4 (by omega)]; exact hc 4 _ rfl, by rw [← add_field _ _ 5 (by omega)]; exact hc 5 _ rfl⟩

end Go.Proofs.Ytfbokdbaondjdaa.PV1
-- printed for this claim out of the translation
namespace Go.Proofs.Ytfbokdbaondjdaa.PV1
open Go.RowKit Go.Proofs.YtfbokdbaondjdaaW.PrintWords Go.Proofs.YtfbokdbaondjdaaW.PrintLast Go.Proofs.YtfbokdbaondjdaaW.PrintMore Go.Proofs.Ytfbokdbaondjdaa.Cz
attribute [local go_sem] max2_int min2_int max_two min_two max_three min_three max_four min_four
set_option linter.unusedVariables false
set_option linter.unusedSimpArgs false

theorem eqA89 (d : Nat) (w : World) (x0 y0 : Int) (x1 y1 : Int) :
  (Op.equalIn (d + 2) 89 (.agg #[.int .i64 x0, .int .i64 x1]) (.agg #[.int .i64 y0, .int .i64 y1])).run Try.prog w = .ok (x0 == y0 && (x1 == y1)) w := by
 refine eqA_of Try.underlying89 (by kernel_rfl) ?_
 refine eqf_cons (by rfl) (by go_simp; rfl) (by go_simp; rfl) (by go_simp) ?_
 exact eqf_last (by rfl) (by go_simp; rfl) (by go_simp; rfl) (by go_simp)
end Go.Proofs.Ytfbokdbaondjdaa.PV1
-- printed for this claim out of the translation
namespace Go.Proofs.Ytfbokdbaondjdaa.PV1
open Go.RowKit Go.Proofs.YtfbokdbaondjdaaW.PrintWords Go.Proofs.YtfbokdbaondjdaaW.PrintLast Go.Proofs.YtfbokdbaondjdaaW.PrintMore Go.Proofs.Ytfbokdbaondjdaa.Cz
attribute [local go_sem] max2_int min2_int max_two min_two max_three min_three max_four min_four
set_option linter.unusedVariables false
set_option linter.unusedSimpArgs false

attribute [local go_sem high] eqA89
/-! ### impl_in: function 56 -/
def impl_in.f (a0 : Int) (a1 : Int) (a2 : Int) : Option (Bool) := if a0 ≥ a1 then (some (decide (a0 ≤ a2))) else (some false)
set_option maxHeartbeats 8000000 in
set_option maxRecDepth 100000 in
theorem impl_in.calls (a0 : Int) (a1 : Int) (a2 : Int) (r : Bool) (w : World) (h : impl_in.f a0 a1 a2 = some r) :
  Calls Try.prog 56 #[.int .i64 a0, .int .i64 a1, .int .i64 a2] w fun e w' => e = .returned (.bool r) ∧ Drawn0 w w' := by
 have H : (if a0 ≥ a1 then (some (decide (a0 ≤ a2))) else (some false)) = some r := h
 clear h
 by_cases c4 : a0 ≥ a1
 ·rw [if_pos c4] at H
  have c4b0 : decide (a1 ≤ a0) = true := decide_eq_true c4
  clear c4
  obtain rfl := Option.some.inj H
  go_enter Try.func56, Try.ntmps56
  go_wp2
  go_ret
  exact ⟨by first | rfl | (simp; done) | (simp [*]; done), by repeat (first | exact Drawn0.refl _ | apply Drawn0.step)⟩
 ·rw [if_neg c4] at H
  have c4b0 : decide (a1 ≤ a0) = false := decide_eq_false c4
  clear c4
  obtain rfl := Option.some.inj H
  go_enter Try.func56, Try.ntmps56
  go_wp2
  go_ret
  exact ⟨by first | rfl | (simp; done) | (simp [*]; done), by repeat (first | exact Drawn0.refl _ | apply Drawn0.step)⟩

/-! ### impl_ShipOk: function 17 -/
def impl_ShipOk.f (a0_0 : Int) (a0_1 : Int) (a0_2 : Int) (a0_3 : Int) (a0_4 : Int) (a0_5 : Int) : Option (Bool) := (impl_in.f a0_0 (-100000) 100000).bind fun t102 => (if t102 = true then ((impl_in.f a0_1 (-100000) 100000).bind fun t103 => (if t103 = true then ((impl_in.f a0_2 (-1000) 1000).bind fun t104 => (if t104 = true then ((impl_in.f a0_3 (-1000) 1000).bind fun t105 => (if t105 = true then (if a0_2 = 0 then (if a0_3 = 0 then (some false) else ((impl_in.f a0_4 1 5).bind fun t106 => (if t106 = true then ((impl_in.f a0_5 0 1000).bind fun t107 => (some t107)) else (some false)))) else ((impl_in.f a0_4 1 5).bind fun t108 => (if t108 = true then ((impl_in.f a0_5 0 1000).bind fun t109 => (some t109)) else (some false)))) else (some false))) else (some false))) else (some false))) else (some false))
set_option maxHeartbeats 8000000 in
set_option maxRecDepth 100000 in
theorem impl_ShipOk.calls (a0_0 : Int) (a0_1 : Int) (a0_2 : Int) (a0_3 : Int) (a0_4 : Int) (a0_5 : Int) (r : Bool) (w : World) (h : impl_ShipOk.f a0_0 a0_1 a0_2 a0_3 a0_4 a0_5 = some r) :
  Calls Try.prog 17 #[.agg #[.int .i64 a0_0, .int .i64 a0_1, .int .i64 a0_2, .int .i64 a0_3, .int .i64 a0_4, .int .i64 a0_5]] w fun e w' => e = .returned (.bool r) ∧ Below w.heap.size w w' := by
 have hu25 := Try.underlying25
 have HB := Aside0.mk (Below.refl w.heap.size w)
 have H : ((impl_in.f a0_0 (-100000) 100000).bind fun t102 => (if t102 = true then ((impl_in.f a0_1 (-100000) 100000).bind fun t103 => (if t103 = true then ((impl_in.f a0_2 (-1000) 1000).bind fun t104 => (if t104 = true then ((impl_in.f a0_3 (-1000) 1000).bind fun t105 => (if t105 = true then (if a0_2 = 0 then (if a0_3 = 0 then (some false) else ((impl_in.f a0_4 1 5).bind fun t106 => (if t106 = true then ((impl_in.f a0_5 0 1000).bind fun t107 => (some t107)) else (some false)))) else ((impl_in.f a0_4 1 5).bind fun t108 => (if t108 = true then ((impl_in.f a0_5 0 1000).bind fun t109 => (some t109)) else (some false)))) else (some false))) else (some false))) else (some false))) else (some false))) = some r := h
 clear h
 replace H := Option.bind_eq_some_iff.mp H
 obtain ⟨t102, A20, H⟩ := H
 replace H : (if t102 = true then ((impl_in.f a0_1 (-100000) 100000).bind fun t103 => (if t103 = true then ((impl_in.f a0_2 (-1000) 1000).bind fun t104 => (if t104 = true then ((impl_in.f a0_3 (-1000) 1000).bind fun t105 => (if t105 = true then (if a0_2 = 0 then (if a0_3 = 0 then (some false) else ((impl_in.f a0_4 1 5).bind fun t106 => (if t106 = true then ((impl_in.f a0_5 0 1000).bind fun t107 => (some t107)) else (some false)))) else ((impl_in.f a0_4 1 5).bind fun t108 => (if t108 = true then ((impl_in.f a0_5 0 1000).bind fun t109 => (some t109)) else (some false)))) else (some false))) else (some false))) else (some false))) else (some false)) = some r := H
 have A2 := Aside0.mk A20
 clear A20
 by_cases c3 : t102 = true
 ·subst c3
  have H1 : ((impl_in.f a0_1 (-100000) 100000).bind fun t103 => (if t103 = true then ((impl_in.f a0_2 (-1000) 1000).bind fun t104 => (if t104 = true then ((impl_in.f a0_3 (-1000) 1000).bind fun t105 => (if t105 = true then (if a0_2 = 0 then (if a0_3 = 0 then (some false) else ((impl_in.f a0_4 1 5).bind fun t106 => (if t106 = true then ((impl_in.f a0_5 0 1000).bind fun t107 => (some t107)) else (some false)))) else ((impl_in.f a0_4 1 5).bind fun t108 => (if t108 = true then ((impl_in.f a0_5 0 1000).bind fun t109 => (some t109)) else (some false)))) else (some false))) else (some false))) else (some false))) = some r := by rw [if_pos rfl] at H; exact H
  clear H
  have H := H1
  clear H1
  replace H := Option.bind_eq_some_iff.mp H
  obtain ⟨t103, A40, H⟩ := H
  replace H : (if t103 = true then ((impl_in.f a0_2 (-1000) 1000).bind fun t104 => (if t104 = true then ((impl_in.f a0_3 (-1000) 1000).bind fun t105 => (if t105 = true then (if a0_2 = 0 then (if a0_3 = 0 then (some false) else ((impl_in.f a0_4 1 5).bind fun t106 => (if t106 = true then ((impl_in.f a0_5 0 1000).bind fun t107 => (some t107)) else (some false)))) else ((impl_in.f a0_4 1 5).bind fun t108 => (if t108 = true then ((impl_in.f a0_5 0 1000).bind fun t109 => (some t109)) else (some false)))) else (some false))) else (some false))) else (some false)) = some r := H
  have A4 := Aside0.mk A40
  clear A40
  by_cases c5 : t103 = true
  ·subst c5
   have H1 : ((impl_in.f a0_2 (-1000) 1000).bind fun t104 => (if t104 = true then ((impl_in.f a0_3 (-1000) 1000).bind fun t105 => (if t105 = true then (if a0_2 = 0 then (if a0_3 = 0 then (some false) else ((impl_in.f a0_4 1 5).bind fun t106 => (if t106 = true then ((impl_in.f a0_5 0 1000).bind fun t107 => (some t107)) else (some false)))) else ((impl_in.f a0_4 1 5).bind fun t108 => (if t108 = true then ((impl_in.f a0_5 0 1000).bind fun t109 => (some t109)) else (some false)))) else (some false))) else (some false))) = some r := by rw [if_pos rfl] at H; exact H
   clear H
   have H := H1
   clear H1
   replace H := Option.bind_eq_some_iff.mp H
   obtain ⟨t104, A60, H⟩ := H
   replace H : (if t104 = true then ((impl_in.f a0_3 (-1000) 1000).bind fun t105 => (if t105 = true then (if a0_2 = 0 then (if a0_3 = 0 then (some false) else ((impl_in.f a0_4 1 5).bind fun t106 => (if t106 = true then ((impl_in.f a0_5 0 1000).bind fun t107 => (some t107)) else (some false)))) else ((impl_in.f a0_4 1 5).bind fun t108 => (if t108 = true then ((impl_in.f a0_5 0 1000).bind fun t109 => (some t109)) else (some false)))) else (some false))) else (some false)) = some r := H
   have A6 := Aside0.mk A60
   clear A60
   by_cases c7 : t104 = true
   ·subst c7
    have H1 : ((impl_in.f a0_3 (-1000) 1000).bind fun t105 => (if t105 = true then (if a0_2 = 0 then (if a0_3 = 0 then (some false) else ((impl_in.f a0_4 1 5).bind fun t106 => (if t106 = true then ((impl_in.f a0_5 0 1000).bind fun t107 => (some t107)) else (some false)))) else ((impl_in.f a0_4 1 5).bind fun t108 => (if t108 = true then ((impl_in.f a0_5 0 1000).bind fun t109 => (some t109)) else (some false)))) else (some false))) = some r := by rw [if_pos rfl] at H; exact H
    clear H
    have H := H1
    clear H1
    replace H := Option.bind_eq_some_iff.mp H
    obtain ⟨t105, A80, H⟩ := H
    replace H : (if t105 = true then (if a0_2 = 0 then (if a0_3 = 0 then (some false) else ((impl_in.f a0_4 1 5).bind fun t106 => (if t106 = true then ((impl_in.f a0_5 0 1000).bind fun t107 => (some t107)) else (some false)))) else ((impl_in.f a0_4 1 5).bind fun t108 => (if t108 = true then ((impl_in.f a0_5 0 1000).bind fun t109 => (some t109)) else (some false)))) else (some false)) = some r := H
    have A8 := Aside0.mk A80
    clear A80
    by_cases c9 : t105 = true
    ·subst c9
     have H1 : (if a0_2 = 0 then (if a0_3 = 0 then (some false) else ((impl_in.f a0_4 1 5).bind fun t106 => (if t106 = true then ((impl_in.f a0_5 0 1000).bind fun t107 => (some t107)) else (some false)))) else ((impl_in.f a0_4 1 5).bind fun t108 => (if t108 = true then ((impl_in.f a0_5 0 1000).bind fun t109 => (some t109)) else (some false)))) = some r := by rw [if_pos rfl] at H; exact H
     clear H
     have H := H1
     clear H1
     by_cases c10 : a0_2 = 0
     ·rw [if_pos c10] at H
      have c10b0 : (a0_2 == 0) = true := beq_iff_eq.mpr c10
      have c10b1 : (a0_2 != 0) = false := bne_eq_false_iff_eq.mpr c10
      clear c10
      by_cases c11 : a0_3 = 0
      ·rw [if_pos c11] at H
       have c11b0 : (a0_3 == 0) = true := beq_iff_eq.mpr c11
       have c11b1 : (a0_3 != 0) = false := bne_eq_false_iff_eq.mpr c11
       clear c11
       obtain rfl := Option.some.inj H
       go_enter Try.func17, Try.ntmps17
       go_wp2_with (first | ((with_reducible refine gate_dst (N := 1) rfl ?_); refine box_event ?hg (N := 1) ?hd (cs := #[.int .i64 a0_0, .int .i64 a0_1, .int .i64 a0_2, .int .i64 a0_3, .int .i64 a0_4, .int .i64 a0_5]) (t := 25) ?hr ?_; (case hd => rfl); (case hg => rfl); (case hr => first | (go_simp; done) | (go_simp; rfl)); intro gb101 hg w12 hbox hb; replace BK101 := Aside0.mk (hbox); replace GW101 := Aside0.mk ((by rw [hg]; exact (below_size (ub HB)) : w.heap.size ≤ gb101)); replace GE101 := Aside0.mk ((by rw [hg]; exact (below_size (ub HB)) : w.heap.size ≤ gb101)); replace HB := Aside0.mk (below_step (ub HB) hb); clear hb hbox hg; obtain ⟨hcz13_0, hcz13_1, hcz13_2, hcz13_3, hcz13_4, hcz13_5, hfz13_0, hfz13_1, hfz13_2, hfz13_3, hfz13_4, hfz13_5⟩ := six BK101) | ((with_reducible refine gate_callee (f := 56) rfl ?_); refine goesL_ (some 5) rfl rfl Try.func56 (by kernel_rfl) rfl #[.int .i64 a0_0, .int .i64 (-100000), .int .i64 100000] rfl (by (try simp only [List.map_toArray, List.map_cons, List.map_nil]); first | done | rfl) ?_; (with_reducible refine (impl_in.calls a0_0 (-100000) 100000 true _ A2.out).mono ?_); rintro e w' ⟨rfl, ⟨nd, rfl⟩⟩; refine ⟨_, rfl, ?_⟩) | (go_at_call 56; (with_reducible refine (impl_in.calls a0_1 (-100000) 100000 true _ A4.out).mono ?_); rintro e w' ⟨rfl, ⟨nd, rfl⟩⟩) | (go_at_call 56; (with_reducible refine (impl_in.calls a0_2 (-1000) 1000 true _ A6.out).mono ?_); rintro e w' ⟨rfl, ⟨nd, rfl⟩⟩) | (go_at_call 56; (with_reducible refine (impl_in.calls a0_3 (-1000) 1000 true _ A8.out).mono ?_); rintro e w' ⟨rfl, ⟨nd, rfl⟩⟩))
       go_ret
       exact ⟨by first | rfl | (simp [errW_none, errW_some] <;> rfl) | (simp [*, errW_none, errW_some] <;> rfl), by repeat (first | (with_reducible first | exact HB.out | apply below_alloc | apply pw_below_drewN | apply below_drew1 | refine below_set ?_ GE101.out) | exact HB.out)⟩
      ·rw [if_neg c11] at H
       have c11b0 : (a0_3 == 0) = false := beq_eq_false_iff_ne.mpr c11
       have c11b1 : (a0_3 != 0) = true := bne_iff_ne.mpr c11
       replace H := Option.bind_eq_some_iff.mp H
       obtain ⟨t106, A140, H⟩ := H
       replace H : (if t106 = true then ((impl_in.f a0_5 0 1000).bind fun t107 => (some t107)) else (some false)) = some r := H
       have A14 := Aside0.mk A140
       clear A140
       by_cases c15 : t106 = true
       ·subst c15
        have H1 : ((impl_in.f a0_5 0 1000).bind fun t107 => (some t107)) = some r := by rw [if_pos rfl] at H; exact H
        clear H
        have H := H1
        clear H1
        replace H := Option.bind_eq_some_iff.mp H
        obtain ⟨t107, A160, H⟩ := H
        replace H : (some t107) = some r := H
        have A16 := Aside0.mk A160
        clear A160
        obtain rfl := Option.some.inj H
        go_enter Try.func17, Try.ntmps17
        go_wp2_with (first | ((with_reducible refine gate_dst (N := 1) rfl ?_); refine box_event ?hg (N := 1) ?hd (cs := #[.int .i64 a0_0, .int .i64 a0_1, .int .i64 a0_2, .int .i64 a0_3, .int .i64 a0_4, .int .i64 a0_5]) (t := 25) ?hr ?_; (case hd => rfl); (case hg => rfl); (case hr => first | (go_simp; done) | (go_simp; rfl)); intro gb101 hg w17 hbox hb; replace BK101 := Aside0.mk (hbox); replace GW101 := Aside0.mk ((by rw [hg]; exact (below_size (ub HB)) : w.heap.size ≤ gb101)); replace GE101 := Aside0.mk ((by rw [hg]; exact (below_size (ub HB)) : w.heap.size ≤ gb101)); replace HB := Aside0.mk (below_step (ub HB) hb); clear hb hbox hg; obtain ⟨hcz18_0, hcz18_1, hcz18_2, hcz18_3, hcz18_4, hcz18_5, hfz18_0, hfz18_1, hfz18_2, hfz18_3, hfz18_4, hfz18_5⟩ := six BK101) | ((with_reducible refine gate_callee (f := 56) rfl ?_); refine goesL_ (some 5) rfl rfl Try.func56 (by kernel_rfl) rfl #[.int .i64 a0_0, .int .i64 (-100000), .int .i64 100000] rfl (by (try simp only [List.map_toArray, List.map_cons, List.map_nil]); first | done | rfl) ?_; (with_reducible refine (impl_in.calls a0_0 (-100000) 100000 true _ A2.out).mono ?_); rintro e w' ⟨rfl, ⟨nd, rfl⟩⟩; refine ⟨_, rfl, ?_⟩) | (go_at_call 56; (with_reducible refine (impl_in.calls a0_1 (-100000) 100000 true _ A4.out).mono ?_); rintro e w' ⟨rfl, ⟨nd, rfl⟩⟩) | (go_at_call 56; (with_reducible refine (impl_in.calls a0_2 (-1000) 1000 true _ A6.out).mono ?_); rintro e w' ⟨rfl, ⟨nd, rfl⟩⟩) | (go_at_call 56; (with_reducible refine (impl_in.calls a0_3 (-1000) 1000 true _ A8.out).mono ?_); rintro e w' ⟨rfl, ⟨nd, rfl⟩⟩) | (go_at_call 56; (with_reducible refine (impl_in.calls a0_4 1 5 true _ A14.out).mono ?_); rintro e w' ⟨rfl, ⟨nd, rfl⟩⟩) | (go_at_call 56; (with_reducible refine (impl_in.calls a0_5 0 1000 t107 _ A16.out).mono ?_); rintro e w' ⟨rfl, ⟨nd, rfl⟩⟩))
        go_ret
        exact ⟨by first | rfl | (simp [errW_none, errW_some] <;> rfl) | (simp [*, errW_none, errW_some] <;> rfl), by repeat (first | (with_reducible first | exact HB.out | apply below_alloc | apply pw_below_drewN | apply below_drew1 | refine below_set ?_ GE101.out) | exact HB.out)⟩
       ·replace c15 := Bool.eq_false_iff.mpr c15
        subst c15
        have H1 : (some false) = some r := by rw [if_neg (show ¬ (false = true) by decide)] at H; exact H
        clear H
        have H := H1
        clear H1
        obtain rfl := Option.some.inj H
        go_enter Try.func17, Try.ntmps17
        go_wp2_with (first | ((with_reducible refine gate_dst (N := 1) rfl ?_); refine box_event ?hg (N := 1) ?hd (cs := #[.int .i64 a0_0, .int .i64 a0_1, .int .i64 a0_2, .int .i64 a0_3, .int .i64 a0_4, .int .i64 a0_5]) (t := 25) ?hr ?_; (case hd => rfl); (case hg => rfl); (case hr => first | (go_simp; done) | (go_simp; rfl)); intro gb101 hg w19 hbox hb; replace BK101 := Aside0.mk (hbox); replace GW101 := Aside0.mk ((by rw [hg]; exact (below_size (ub HB)) : w.heap.size ≤ gb101)); replace GE101 := Aside0.mk ((by rw [hg]; exact (below_size (ub HB)) : w.heap.size ≤ gb101)); replace HB := Aside0.mk (below_step (ub HB) hb); clear hb hbox hg; obtain ⟨hcz20_0, hcz20_1, hcz20_2, hcz20_3, hcz20_4, hcz20_5, hfz20_0, hfz20_1, hfz20_2, hfz20_3, hfz20_4, hfz20_5⟩ := six BK101) | ((with_reducible refine gate_callee (f := 56) rfl ?_); refine goesL_ (some 5) rfl rfl Try.func56 (by kernel_rfl) rfl #[.int .i64 a0_0, .int .i64 (-100000), .int .i64 100000] rfl (by (try simp only [List.map_toArray, List.map_cons, List.map_nil]); first | done | rfl) ?_; (with_reducible refine (impl_in.calls a0_0 (-100000) 100000 true _ A2.out).mono ?_); rintro e w' ⟨rfl, ⟨nd, rfl⟩⟩; refine ⟨_, rfl, ?_⟩) | (go_at_call 56; (with_reducible refine (impl_in.calls a0_1 (-100000) 100000 true _ A4.out).mono ?_); rintro e w' ⟨rfl, ⟨nd, rfl⟩⟩) | (go_at_call 56; (with_reducible refine (impl_in.calls a0_2 (-1000) 1000 true _ A6.out).mono ?_); rintro e w' ⟨rfl, ⟨nd, rfl⟩⟩) | (go_at_call 56; (with_reducible refine (impl_in.calls a0_3 (-1000) 1000 true _ A8.out).mono ?_); rintro e w' ⟨rfl, ⟨nd, rfl⟩⟩) | (go_at_call 56; (with_reducible refine (impl_in.calls a0_4 1 5 false _ A14.out).mono ?_); rintro e w' ⟨rfl, ⟨nd, rfl⟩⟩))
        go_ret
        exact ⟨by first | rfl | (simp [errW_none, errW_some] <;> rfl) | (simp [*, errW_none, errW_some] <;> rfl), by repeat (first | (with_reducible first | exact HB.out | apply below_alloc | apply pw_below_drewN | apply below_drew1 | refine below_set ?_ GE101.out) | exact HB.out)⟩
     ·rw [if_neg c10] at H
      have c10b0 : (a0_2 == 0) = false := beq_eq_false_iff_ne.mpr c10
      have c10b1 : (a0_2 != 0) = true := bne_iff_ne.mpr c10
      replace H := Option.bind_eq_some_iff.mp H
      obtain ⟨t108, A210, H⟩ := H
      replace H : (if t108 = true then ((impl_in.f a0_5 0 1000).bind fun t109 => (some t109)) else (some false)) = some r := H
      have A21 := Aside0.mk A210
      clear A210
      by_cases c22 : t108 = true
      ·subst c22
       have H1 : ((impl_in.f a0_5 0 1000).bind fun t109 => (some t109)) = some r := by rw [if_pos rfl] at H; exact H
       clear H
       have H := H1
       clear H1
       replace H := Option.bind_eq_some_iff.mp H
       obtain ⟨t109, A230, H⟩ := H
       replace H : (some t109) = some r := H
       have A23 := Aside0.mk A230
       clear A230
       obtain rfl := Option.some.inj H
       go_enter Try.func17, Try.ntmps17
       go_wp2_with (first | ((with_reducible refine gate_dst (N := 1) rfl ?_); refine box_event ?hg (N := 1) ?hd (cs := #[.int .i64 a0_0, .int .i64 a0_1, .int .i64 a0_2, .int .i64 a0_3, .int .i64 a0_4, .int .i64 a0_5]) (t := 25) ?hr ?_; (case hd => rfl); (case hg => rfl); (case hr => first | (go_simp; done) | (go_simp; rfl)); intro gb101 hg w24 hbox hb; replace BK101 := Aside0.mk (hbox); replace GW101 := Aside0.mk ((by rw [hg]; exact (below_size (ub HB)) : w.heap.size ≤ gb101)); replace GE101 := Aside0.mk ((by rw [hg]; exact (below_size (ub HB)) : w.heap.size ≤ gb101)); replace HB := Aside0.mk (below_step (ub HB) hb); clear hb hbox hg; obtain ⟨hcz25_0, hcz25_1, hcz25_2, hcz25_3, hcz25_4, hcz25_5, hfz25_0, hfz25_1, hfz25_2, hfz25_3, hfz25_4, hfz25_5⟩ := six BK101) | ((with_reducible refine gate_callee (f := 56) rfl ?_); refine goesL_ (some 5) rfl rfl Try.func56 (by kernel_rfl) rfl #[.int .i64 a0_0, .int .i64 (-100000), .int .i64 100000] rfl (by (try simp only [List.map_toArray, List.map_cons, List.map_nil]); first | done | rfl) ?_; (with_reducible refine (impl_in.calls a0_0 (-100000) 100000 true _ A2.out).mono ?_); rintro e w' ⟨rfl, ⟨nd, rfl⟩⟩; refine ⟨_, rfl, ?_⟩) | (go_at_call 56; (with_reducible refine (impl_in.calls a0_1 (-100000) 100000 true _ A4.out).mono ?_); rintro e w' ⟨rfl, ⟨nd, rfl⟩⟩) | (go_at_call 56; (with_reducible refine (impl_in.calls a0_2 (-1000) 1000 true _ A6.out).mono ?_); rintro e w' ⟨rfl, ⟨nd, rfl⟩⟩) | (go_at_call 56; (with_reducible refine (impl_in.calls a0_3 (-1000) 1000 true _ A8.out).mono ?_); rintro e w' ⟨rfl, ⟨nd, rfl⟩⟩) | (go_at_call 56; (with_reducible refine (impl_in.calls a0_4 1 5 true _ A21.out).mono ?_); rintro e w' ⟨rfl, ⟨nd, rfl⟩⟩) | (go_at_call 56; (with_reducible refine (impl_in.calls a0_5 0 1000 t109 _ A23.out).mono ?_); rintro e w' ⟨rfl, ⟨nd, rfl⟩⟩))
       go_ret
       exact ⟨by first | rfl | (simp [errW_none, errW_some] <;> rfl) | (simp [*, errW_none, errW_some] <;> rfl), by repeat (first | (with_reducible first | exact HB.out | apply below_alloc | apply pw_below_drewN | apply below_drew1 | refine below_set ?_ GE101.out) | exact HB.out)⟩
      ·replace c22 := Bool.eq_false_iff.mpr c22
       subst c22
       have H1 : (some false) = some r := by rw [if_neg (show ¬ (false = true) by decide)] at H; exact H
       clear H
       have H := H1
       clear H1
       obtain rfl := Option.some.inj H
       go_enter Try.func17, Try.ntmps17
       go_wp2_with (first | ((with_reducible refine gate_dst (N := 1) rfl ?_); refine box_event ?hg (N := 1) ?hd (cs := #[.int .i64 a0_0, .int .i64 a0_1, .int .i64 a0_2, .int .i64 a0_3, .int .i64 a0_4, .int .i64 a0_5]) (t := 25) ?hr ?_; (case hd => rfl); (case hg => rfl); (case hr => first | (go_simp; done) | (go_simp; rfl)); intro gb101 hg w26 hbox hb; replace BK101 := Aside0.mk (hbox); replace GW101 := Aside0.mk ((by rw [hg]; exact (below_size (ub HB)) : w.heap.size ≤ gb101)); replace GE101 := Aside0.mk ((by rw [hg]; exact (below_size (ub HB)) : w.heap.size ≤ gb101)); replace HB := Aside0.mk (below_step (ub HB) hb); clear hb hbox hg; obtain ⟨hcz27_0, hcz27_1, hcz27_2, hcz27_3, hcz27_4, hcz27_5, hfz27_0, hfz27_1, hfz27_2, hfz27_3, hfz27_4, hfz27_5⟩ := six BK101) | ((with_reducible refine gate_callee (f := 56) rfl ?_); refine goesL_ (some 5) rfl rfl Try.func56 (by kernel_rfl) rfl #[.int .i64 a0_0, .int .i64 (-100000), .int .i64 100000] rfl (by (try simp only [List.map_toArray, List.map_cons, List.map_nil]); first | done | rfl) ?_; (with_reducible refine (impl_in.calls a0_0 (-100000) 100000 true _ A2.out).mono ?_); rintro e w' ⟨rfl, ⟨nd, rfl⟩⟩; refine ⟨_, rfl, ?_⟩) | (go_at_call 56; (with_reducible refine (impl_in.calls a0_1 (-100000) 100000 true _ A4.out).mono ?_); rintro e w' ⟨rfl, ⟨nd, rfl⟩⟩) | (go_at_call 56; (with_reducible refine (impl_in.calls a0_2 (-1000) 1000 true _ A6.out).mono ?_); rintro e w' ⟨rfl, ⟨nd, rfl⟩⟩) | (go_at_call 56; (with_reducible refine (impl_in.calls a0_3 (-1000) 1000 true _ A8.out).mono ?_); rintro e w' ⟨rfl, ⟨nd, rfl⟩⟩) | (go_at_call 56; (with_reducible refine (impl_in.calls a0_4 1 5 false _ A21.out).mono ?_); rintro e w' ⟨rfl, ⟨nd, rfl⟩⟩))
       go_ret
       exact ⟨by first | rfl | (simp [errW_none, errW_some] <;> rfl) | (simp [*, errW_none, errW_some] <;> rfl), by repeat (first | (with_reducible first | exact HB.out | apply below_alloc | apply pw_below_drewN | apply below_drew1 | refine below_set ?_ GE101.out) | exact HB.out)⟩
    ·replace c9 := Bool.eq_false_iff.mpr c9
     subst c9
     have H1 : (some false) = some r := by rw [if_neg (show ¬ (false = true) by decide)] at H; exact H
     clear H
     have H := H1
     clear H1
     obtain rfl := Option.some.inj H
     go_enter Try.func17, Try.ntmps17
     go_wp2_with (first | ((with_reducible refine gate_dst (N := 1) rfl ?_); refine box_event ?hg (N := 1) ?hd (cs := #[.int .i64 a0_0, .int .i64 a0_1, .int .i64 a0_2, .int .i64 a0_3, .int .i64 a0_4, .int .i64 a0_5]) (t := 25) ?hr ?_; (case hd => rfl); (case hg => rfl); (case hr => first | (go_simp; done) | (go_simp; rfl)); intro gb101 hg w28 hbox hb; replace BK101 := Aside0.mk (hbox); replace GW101 := Aside0.mk ((by rw [hg]; exact (below_size (ub HB)) : w.heap.size ≤ gb101)); replace GE101 := Aside0.mk ((by rw [hg]; exact (below_size (ub HB)) : w.heap.size ≤ gb101)); replace HB := Aside0.mk (below_step (ub HB) hb); clear hb hbox hg; obtain ⟨hcz29_0, hcz29_1, hcz29_2, hcz29_3, hcz29_4, hcz29_5, hfz29_0, hfz29_1, hfz29_2, hfz29_3, hfz29_4, hfz29_5⟩ := six BK101) | ((with_reducible refine gate_callee (f := 56) rfl ?_); refine goesL_ (some 5) rfl rfl Try.func56 (by kernel_rfl) rfl #[.int .i64 a0_0, .int .i64 (-100000), .int .i64 100000] rfl (by (try simp only [List.map_toArray, List.map_cons, List.map_nil]); first | done | rfl) ?_; (with_reducible refine (impl_in.calls a0_0 (-100000) 100000 true _ A2.out).mono ?_); rintro e w' ⟨rfl, ⟨nd, rfl⟩⟩; refine ⟨_, rfl, ?_⟩) | (go_at_call 56; (with_reducible refine (impl_in.calls a0_1 (-100000) 100000 true _ A4.out).mono ?_); rintro e w' ⟨rfl, ⟨nd, rfl⟩⟩) | (go_at_call 56; (with_reducible refine (impl_in.calls a0_2 (-1000) 1000 true _ A6.out).mono ?_); rintro e w' ⟨rfl, ⟨nd, rfl⟩⟩) | (go_at_call 56; (with_reducible refine (impl_in.calls a0_3 (-1000) 1000 false _ A8.out).mono ?_); rintro e w' ⟨rfl, ⟨nd, rfl⟩⟩))
     go_ret
     exact ⟨by first | rfl | (simp [errW_none, errW_some] <;> rfl) | (simp [*, errW_none, errW_some] <;> rfl), by repeat (first | (with_reducible first | exact HB.out | apply below_alloc | apply pw_below_drewN | apply below_drew1 | refine below_set ?_ GE101.out) | exact HB.out)⟩
   ·replace c7 := Bool.eq_false_iff.mpr c7
    subst c7
    have H1 : (some false) = some r := by rw [if_neg (show ¬ (false = true) by decide)] at H; exact H
    clear H
    have H := H1
    clear H1
    obtain rfl := Option.some.inj H
    go_enter Try.func17, Try.ntmps17
    go_wp2_with (first | ((with_reducible refine gate_dst (N := 1) rfl ?_); refine box_event ?hg (N := 1) ?hd (cs := #[.int .i64 a0_0, .int .i64 a0_1, .int .i64 a0_2, .int .i64 a0_3, .int .i64 a0_4, .int .i64 a0_5]) (t := 25) ?hr ?_; (case hd => rfl); (case hg => rfl); (case hr => first | (go_simp; done) | (go_simp; rfl)); intro gb101 hg w30 hbox hb; replace BK101 := Aside0.mk (hbox); replace GW101 := Aside0.mk ((by rw [hg]; exact (below_size (ub HB)) : w.heap.size ≤ gb101)); replace GE101 := Aside0.mk ((by rw [hg]; exact (below_size (ub HB)) : w.heap.size ≤ gb101)); replace HB := Aside0.mk (below_step (ub HB) hb); clear hb hbox hg; obtain ⟨hcz31_0, hcz31_1, hcz31_2, hcz31_3, hcz31_4, hcz31_5, hfz31_0, hfz31_1, hfz31_2, hfz31_3, hfz31_4, hfz31_5⟩ := six BK101) | ((with_reducible refine gate_callee (f := 56) rfl ?_); refine goesL_ (some 5) rfl rfl Try.func56 (by kernel_rfl) rfl #[.int .i64 a0_0, .int .i64 (-100000), .int .i64 100000] rfl (by (try simp only [List.map_toArray, List.map_cons, List.map_nil]); first | done | rfl) ?_; (with_reducible refine (impl_in.calls a0_0 (-100000) 100000 true _ A2.out).mono ?_); rintro e w' ⟨rfl, ⟨nd, rfl⟩⟩; refine ⟨_, rfl, ?_⟩) | (go_at_call 56; (with_reducible refine (impl_in.calls a0_1 (-100000) 100000 true _ A4.out).mono ?_); rintro e w' ⟨rfl, ⟨nd, rfl⟩⟩) | (go_at_call 56; (with_reducible refine (impl_in.calls a0_2 (-1000) 1000 false _ A6.out).mono ?_); rintro e w' ⟨rfl, ⟨nd, rfl⟩⟩))
    go_ret
    exact ⟨by first | rfl | (simp [errW_none, errW_some] <;> rfl) | (simp [*, errW_none, errW_some] <;> rfl), by repeat (first | (with_reducible first | exact HB.out | apply below_alloc | apply pw_below_drewN | apply below_drew1 | refine below_set ?_ GE101.out) | exact HB.out)⟩
  ·replace c5 := Bool.eq_false_iff.mpr c5
   subst c5
   have H1 : (some false) = some r := by rw [if_neg (show ¬ (false = true) by decide)] at H; exact H
   clear H
   have H := H1
   clear H1
   obtain rfl := Option.some.inj H
   go_enter Try.func17, Try.ntmps17
   go_wp2_with (first | ((with_reducible refine gate_dst (N := 1) rfl ?_); refine box_event ?hg (N := 1) ?hd (cs := #[.int .i64 a0_0, .int .i64 a0_1, .int .i64 a0_2, .int .i64 a0_3, .int .i64 a0_4, .int .i64 a0_5]) (t := 25) ?hr ?_; (case hd => rfl); (case hg => rfl); (case hr => first | (go_simp; done) | (go_simp; rfl)); intro gb101 hg w32 hbox hb; replace BK101 := Aside0.mk (hbox); replace GW101 := Aside0.mk ((by rw [hg]; exact (below_size (ub HB)) : w.heap.size ≤ gb101)); replace GE101 := Aside0.mk ((by rw [hg]; exact (below_size (ub HB)) : w.heap.size ≤ gb101)); replace HB := Aside0.mk (below_step (ub HB) hb); clear hb hbox hg; obtain ⟨hcz33_0, hcz33_1, hcz33_2, hcz33_3, hcz33_4, hcz33_5, hfz33_0, hfz33_1, hfz33_2, hfz33_3, hfz33_4, hfz33_5⟩ := six BK101) | ((with_reducible refine gate_callee (f := 56) rfl ?_); refine goesL_ (some 5) rfl rfl Try.func56 (by kernel_rfl) rfl #[.int .i64 a0_0, .int .i64 (-100000), .int .i64 100000] rfl (by (try simp only [List.map_toArray, List.map_cons, List.map_nil]); first | done | rfl) ?_; (with_reducible refine (impl_in.calls a0_0 (-100000) 100000 true _ A2.out).mono ?_); rintro e w' ⟨rfl, ⟨nd, rfl⟩⟩; refine ⟨_, rfl, ?_⟩) | (go_at_call 56; (with_reducible refine (impl_in.calls a0_1 (-100000) 100000 false _ A4.out).mono ?_); rintro e w' ⟨rfl, ⟨nd, rfl⟩⟩))
   go_ret
   exact ⟨by first | rfl | (simp [errW_none, errW_some] <;> rfl) | (simp [*, errW_none, errW_some] <;> rfl), by repeat (first | (with_reducible first | exact HB.out | apply below_alloc | apply pw_below_drewN | apply below_drew1 | refine below_set ?_ GE101.out) | exact HB.out)⟩
 ·replace c3 := Bool.eq_false_iff.mpr c3
  subst c3
  have H1 : (some false) = some r := by rw [if_neg (show ¬ (false = true) by decide)] at H; exact H
  clear H
  have H := H1
  clear H1
  obtain rfl := Option.some.inj H
  go_enter Try.func17, Try.ntmps17
  go_wp2_with (first | ((with_reducible refine gate_dst (N := 1) rfl ?_); refine box_event ?hg (N := 1) ?hd (cs := #[.int .i64 a0_0, .int .i64 a0_1, .int .i64 a0_2, .int .i64 a0_3, .int .i64 a0_4, .int .i64 a0_5]) (t := 25) ?hr ?_; (case hd => rfl); (case hg => rfl); (case hr => first | (go_simp; done) | (go_simp; rfl)); intro gb101 hg w34 hbox hb; replace BK101 := Aside0.mk (hbox); replace GW101 := Aside0.mk ((by rw [hg]; exact (below_size (ub HB)) : w.heap.size ≤ gb101)); replace GE101 := Aside0.mk ((by rw [hg]; exact (below_size (ub HB)) : w.heap.size ≤ gb101)); replace HB := Aside0.mk (below_step (ub HB) hb); clear hb hbox hg; obtain ⟨hcz35_0, hcz35_1, hcz35_2, hcz35_3, hcz35_4, hcz35_5, hfz35_0, hfz35_1, hfz35_2, hfz35_3, hfz35_4, hfz35_5⟩ := six BK101) | ((with_reducible refine gate_callee (f := 56) rfl ?_); refine goesL_ (some 5) rfl rfl Try.func56 (by kernel_rfl) rfl #[.int .i64 a0_0, .int .i64 (-100000), .int .i64 100000] rfl (by (try simp only [List.map_toArray, List.map_cons, List.map_nil]); first | done | rfl) ?_; (with_reducible refine (impl_in.calls a0_0 (-100000) 100000 false _ A2.out).mono ?_); rintro e w' ⟨rfl, ⟨nd, rfl⟩⟩; refine ⟨_, rfl, ?_⟩))
  go_ret
  exact ⟨by first | rfl | (simp [errW_none, errW_some] <;> rfl) | (simp [*, errW_none, errW_some] <;> rfl), by repeat (first | (with_reducible first | exact HB.out | apply below_alloc | apply pw_below_drewN | apply below_drew1 | refine below_set ?_ GE101.out) | exact HB.out)⟩

/-! ### impl_bearing: function 70 -/
def impl_bearing.f (a0_0 : Int) (a0_1 : Int) (a0_2 : Int) (a0_3 : Int) (a0_4 : Int) (a0_5 : Int) (a1_0 : Int) (a1_1 : Int) (a1_2 : Int) (a1_3 : Int) (a1_4 : Int) (a1_5 : Int) : Option (Int × Int) := some (wrap64 (a0_0 - a1_0), wrap64 (a0_1 - a1_1))
set_option maxHeartbeats 8000000 in
set_option maxRecDepth 100000 in
theorem impl_bearing.calls (a0_0 : Int) (a0_1 : Int) (a0_2 : Int) (a0_3 : Int) (a0_4 : Int) (a0_5 : Int) (a1_0 : Int) (a1_1 : Int) (a1_2 : Int) (a1_3 : Int) (a1_4 : Int) (a1_5 : Int) (r1 : Int) (r2 : Int) (w : World) (h : impl_bearing.f a0_0 a0_1 a0_2 a0_3 a0_4 a0_5 a1_0 a1_1 a1_2 a1_3 a1_4 a1_5 = some (r1, r2)) :
  Calls Try.prog 70 #[.agg #[.int .i64 a0_0, .int .i64 a0_1, .int .i64 a0_2, .int .i64 a0_3, .int .i64 a0_4, .int .i64 a0_5], .agg #[.int .i64 a1_0, .int .i64 a1_1, .int .i64 a1_2, .int .i64 a1_3, .int .i64 a1_4, .int .i64 a1_5]] w fun e w' => e = .returned (.agg #[.int .i64 r1, .int .i64 r2]) ∧ Below w.heap.size w w' := by
 have hu25 := Try.underlying25
 have hu89 := Try.underlying89
 have HB := Aside0.mk (Below.refl w.heap.size w)
 have H : (some (wrap64 (a0_0 - a1_0), wrap64 (a0_1 - a1_1))) = some (r1, r2) := h
 clear h
 simp only [Option.some.injEq, Prod.mk.injEq] at H
 obtain ⟨rfl, rfl⟩ := H
 go_enter Try.func70, Try.ntmps70
 go_wp2_with (first | ((with_reducible refine gate_dst (N := 2) rfl ?_); refine box_event ?hg (N := 2) ?hd (cs := #[.int .i64 a0_0, .int .i64 a0_1, .int .i64 a0_2, .int .i64 a0_3, .int .i64 a0_4, .int .i64 a0_5]) (t := 25) ?hr ?_; (case hd => rfl); (case hg => rfl); (case hr => first | (go_simp; done) | (go_simp; rfl)); intro gb110 hg w3 hbox hb; replace BK110 := Aside0.mk (hbox); replace GW110 := Aside0.mk ((by rw [hg]; exact (below_size (ub HB)) : w.heap.size ≤ gb110)); replace GE110 := Aside0.mk ((by rw [hg]; exact (below_size (ub HB)) : w.heap.size ≤ gb110)); replace HB := Aside0.mk (below_step (ub HB) hb); clear hb hbox hg) | ((with_reducible refine gate_dst (N := 3) rfl ?_); refine box_event ?hg (N := 3) ?hd (cs := #[.int .i64 a1_0, .int .i64 a1_1, .int .i64 a1_2, .int .i64 a1_3, .int .i64 a1_4, .int .i64 a1_5]) (t := 25) ?hr ?_; (case hd => rfl); (case hg => rfl); (case hr => first | (go_simp; done) | (go_simp; rfl)); intro gb111 hg w4 hbox hb; replace BK111 := Aside0.mk (hbox); replace GW111 := Aside0.mk ((by rw [hg]; exact (below_size (by repeat (first | (with_reducible first | exact HB.out | apply below_alloc | apply pw_below_drewN | apply below_drew1 | refine below_set ?_ GE110.out) | exact HB.out))) : w.heap.size ≤ gb111)); replace GE111 := Aside0.mk ((by rw [hg]; exact (below_size (by repeat (first | (with_reducible first | exact HB.out | apply below_alloc | apply pw_below_drewN | apply below_drew1 | refine below_set ?_ GE110.out) | exact HB.out))) : w.heap.size ≤ gb111)); replace HB := Aside0.mk (below_step (by repeat (first | (with_reducible first | exact HB.out | apply below_alloc | apply pw_below_drewN | apply below_drew1 | refine below_set ?_ GE110.out) | exact HB.out)) hb); replace NB110_111 := Aside0.mk ((by rw [hg]; exact Nat.ne_of_lt (blk_lt (g := gb110) (up BK110)) : gb110 ≠ gb111)); replace NB111_110 := Aside0.mk ((by rw [hg]; exact Nat.ne_of_gt (blk_lt (g := gb110) (up BK110)) : gb111 ≠ gb110)); replace BK110 := Aside0.mk (blk_below (g := gb110) (up BK110) hb); clear hb hbox hg) | ((with_reducible refine gate_dst (N := 4) rfl ?_); refine box_event ?hg (N := 4) ?hd (cs := #[.int .i64 0, .int .i64 0]) (t := 89) ?hr ?_; (case hd => rfl); (case hg => rfl); (case hr => first | (go_simp; done) | (go_simp; rfl)); intro gb112 hg w5 hbox hb; replace BK112 := Aside0.mk (hbox); replace GW112 := Aside0.mk ((by rw [hg]; exact (below_size (by repeat (first | (with_reducible first | exact HB.out | apply below_alloc | apply pw_below_drewN | apply below_drew1 | refine below_set ?_ GE110.out | refine below_set ?_ GE111.out) | exact HB.out))) : w.heap.size ≤ gb112)); replace GE112 := Aside0.mk ((by rw [hg]; exact (below_size (by repeat (first | (with_reducible first | exact HB.out | apply below_alloc | apply pw_below_drewN | apply below_drew1 | refine below_set ?_ GE110.out | refine below_set ?_ GE111.out) | exact HB.out))) : w.heap.size ≤ gb112)); replace HB := Aside0.mk (below_step (by repeat (first | (with_reducible first | exact HB.out | apply below_alloc | apply pw_below_drewN | apply below_drew1 | refine below_set ?_ GE110.out | refine below_set ?_ GE111.out) | exact HB.out)) hb); replace NB110_112 := Aside0.mk ((by rw [hg]; exact Nat.ne_of_lt (blk_lt (g := gb110) (up BK110)) : gb110 ≠ gb112)); replace NB112_110 := Aside0.mk ((by rw [hg]; exact Nat.ne_of_gt (blk_lt (g := gb110) (up BK110)) : gb112 ≠ gb110)); replace BK110 := Aside0.mk (blk_below (g := gb110) (up BK110) hb); replace NB111_112 := Aside0.mk ((by rw [hg]; exact Nat.ne_of_lt (blk_lt (g := gb111) (up BK111)) : gb111 ≠ gb112)); replace NB112_111 := Aside0.mk ((by rw [hg]; exact Nat.ne_of_gt (blk_lt (g := gb111) (up BK111)) : gb112 ≠ gb111)); replace BK111 := Aside0.mk (blk_below (g := gb111) (up BK111) hb); clear hb hbox hg; have hnb6 := NB110_111.out; have hnc6 := NB111_110.out; have hnb7 := NB110_112.out; have hnc7 := NB112_110.out; obtain ⟨hcz8_0, hcz8_1, hcz8_2, hcz8_3, hcz8_4, hcz8_5, hfz8_0, hfz8_1, hfz8_2, hfz8_3, hfz8_4, hfz8_5⟩ := six BK110; have hnb9 := NB111_112.out; have hnc9 := NB112_111.out; obtain ⟨hcz10_0, hcz10_1, hcz10_2, hcz10_3, hcz10_4, hcz10_5, hfz10_0, hfz10_1, hfz10_2, hfz10_3, hfz10_4, hfz10_5⟩ := six BK111; obtain ⟨hcz11_0, hcz11_1, hfz11_0, hfz11_1⟩ := two BK112))
 refine bodyPost_ret (results_cell_row rfl _ _ gb112 89 #[.int .i64 (wrap64 (a0_0 - a1_0)), .int .i64 (wrap64 (a0_1 - a1_1))] (0, 0) _ rfl (by (with_reducible repeat (first | refine blk_drewN ?_ _ | refine blk_drew ?_ | refine blk_alloc ?_ _)); refine blk_put (cs := #[.int .i64 (wrap64 (a0_0 - a1_0)), .int .i64 0]) ?_ 1 _ rfl; (with_reducible repeat (first | refine blk_drewN ?_ _ | refine blk_drew ?_ | refine blk_alloc ?_ _)); refine blk_put (cs := #[.int .i64 0, .int .i64 0]) ?_ 0 _ rfl; (with_reducible repeat (first | refine blk_drewN ?_ _ | refine blk_drew ?_ | refine blk_alloc ?_ _)); exact BK112.out) Try.underlying89 rfl (by kernel_rfl)) rfl ?_
 exact ⟨by first | rfl | (simp [errW_none, errW_some] <;> rfl) | (simp [*, errW_none, errW_some] <;> rfl), by repeat (first | (with_reducible first | exact HB.out | apply below_alloc | apply pw_below_drewN | apply below_drew1 | refine below_set ?_ GE110.out | refine below_set ?_ GE111.out | refine below_set ?_ GE112.out) | exact HB.out)⟩

/-! ### impl_Ship_way: function 71 -/
def impl_Ship_way.f (a0_0 : Int) (a0_1 : Int) (a0_2 : Int) (a0_3 : Int) (a0_4 : Int) (a0_5 : Int) : Option (Int × Int) := some (a0_2, a0_3)
set_option maxHeartbeats 8000000 in
set_option maxRecDepth 100000 in
theorem impl_Ship_way.calls (a0_0 : Int) (a0_1 : Int) (a0_2 : Int) (a0_3 : Int) (a0_4 : Int) (a0_5 : Int) (r1 : Int) (r2 : Int) (w : World) (h : impl_Ship_way.f a0_0 a0_1 a0_2 a0_3 a0_4 a0_5 = some (r1, r2)) :
  Calls Try.prog 71 #[.agg #[.int .i64 a0_0, .int .i64 a0_1, .int .i64 a0_2, .int .i64 a0_3, .int .i64 a0_4, .int .i64 a0_5]] w fun e w' => e = .returned (.agg #[.int .i64 r1, .int .i64 r2]) ∧ Below w.heap.size w w' := by
 have hu25 := Try.underlying25
 have hu89 := Try.underlying89
 have HB := Aside0.mk (Below.refl w.heap.size w)
 have H : (some (a0_2, a0_3)) = some (r1, r2) := h
 clear h
 simp only [Option.some.injEq, Prod.mk.injEq] at H
 obtain ⟨rfl, rfl⟩ := H
 go_enter Try.func71, Try.ntmps71
 go_wp2_with (first | ((with_reducible refine gate_dst (N := 1) rfl ?_); refine box_event ?hg (N := 1) ?hd (cs := #[.int .i64 a0_0, .int .i64 a0_1, .int .i64 a0_2, .int .i64 a0_3, .int .i64 a0_4, .int .i64 a0_5]) (t := 25) ?hr ?_; (case hd => rfl); (case hg => rfl); (case hr => first | (go_simp; done) | (go_simp; rfl)); intro gb113 hg w2 hbox hb; replace BK113 := Aside0.mk (hbox); replace GW113 := Aside0.mk ((by rw [hg]; exact (below_size (ub HB)) : w.heap.size ≤ gb113)); replace GE113 := Aside0.mk ((by rw [hg]; exact (below_size (ub HB)) : w.heap.size ≤ gb113)); replace HB := Aside0.mk (below_step (ub HB) hb); clear hb hbox hg) | ((with_reducible refine gate_dst (N := 2) rfl ?_); refine box_event ?hg (N := 2) ?hd (cs := #[.int .i64 0, .int .i64 0]) (t := 89) ?hr ?_; (case hd => rfl); (case hg => rfl); (case hr => first | (go_simp; done) | (go_simp; rfl)); intro gb114 hg w3 hbox hb; replace BK114 := Aside0.mk (hbox); replace GW114 := Aside0.mk ((by rw [hg]; exact (below_size (by repeat (first | (with_reducible first | exact HB.out | apply below_alloc | apply pw_below_drewN | apply below_drew1 | refine below_set ?_ GE113.out) | exact HB.out))) : w.heap.size ≤ gb114)); replace GE114 := Aside0.mk ((by rw [hg]; exact (below_size (by repeat (first | (with_reducible first | exact HB.out | apply below_alloc | apply pw_below_drewN | apply below_drew1 | refine below_set ?_ GE113.out) | exact HB.out))) : w.heap.size ≤ gb114)); replace HB := Aside0.mk (below_step (by repeat (first | (with_reducible first | exact HB.out | apply below_alloc | apply pw_below_drewN | apply below_drew1 | refine below_set ?_ GE113.out) | exact HB.out)) hb); replace NB113_114 := Aside0.mk ((by rw [hg]; exact Nat.ne_of_lt (blk_lt (g := gb113) (up BK113)) : gb113 ≠ gb114)); replace NB114_113 := Aside0.mk ((by rw [hg]; exact Nat.ne_of_gt (blk_lt (g := gb113) (up BK113)) : gb114 ≠ gb113)); replace BK113 := Aside0.mk (blk_below (g := gb113) (up BK113) hb); clear hb hbox hg; have hnb4 := NB113_114.out; have hnc4 := NB114_113.out; obtain ⟨hcz5_0, hcz5_1, hcz5_2, hcz5_3, hcz5_4, hcz5_5, hfz5_0, hfz5_1, hfz5_2, hfz5_3, hfz5_4, hfz5_5⟩ := six BK113; obtain ⟨hcz6_0, hcz6_1, hfz6_0, hfz6_1⟩ := two BK114))
 refine bodyPost_ret (results_cell_row rfl _ _ gb114 89 #[.int .i64 a0_2, .int .i64 a0_3] (0, 0) _ rfl (by (with_reducible repeat (first | refine blk_drewN ?_ _ | refine blk_drew ?_ | refine blk_alloc ?_ _)); refine blk_put (cs := #[.int .i64 a0_2, .int .i64 0]) ?_ 1 _ rfl; (with_reducible repeat (first | refine blk_drewN ?_ _ | refine blk_drew ?_ | refine blk_alloc ?_ _)); refine blk_put (cs := #[.int .i64 0, .int .i64 0]) ?_ 0 _ rfl; (with_reducible repeat (first | refine blk_drewN ?_ _ | refine blk_drew ?_ | refine blk_alloc ?_ _)); exact BK114.out) Try.underlying89 rfl (by kernel_rfl)) rfl ?_
 exact ⟨by first | rfl | (simp [errW_none, errW_some] <;> rfl) | (simp [*, errW_none, errW_some] <;> rfl), by repeat (first | (with_reducible first | exact HB.out | apply below_alloc | apply pw_below_drewN | apply below_drew1 | refine below_set ?_ GE113.out | refine below_set ?_ GE114.out) | exact HB.out)⟩

/-! ### impl_vec_dot: function 72 -/
def impl_vec_dot.f (a0_0 : Int) (a0_1 : Int) (a1_0 : Int) (a1_1 : Int) : Option (Int) := some (wrap64 ((wrap64 (a0_0 * a1_0)) + (wrap64 (a0_1 * a1_1))))
set_option maxHeartbeats 8000000 in
set_option maxRecDepth 100000 in
theorem impl_vec_dot.calls (a0_0 : Int) (a0_1 : Int) (a1_0 : Int) (a1_1 : Int) (r : Int) (w : World) (h : impl_vec_dot.f a0_0 a0_1 a1_0 a1_1 = some r) :
  Calls Try.prog 72 #[.agg #[.int .i64 a0_0, .int .i64 a0_1], .agg #[.int .i64 a1_0, .int .i64 a1_1]] w fun e w' => e = .returned (.int .i64 r) ∧ Below w.heap.size w w' := by
 have hu89 := Try.underlying89
 have HB := Aside0.mk (Below.refl w.heap.size w)
 have H : (some (wrap64 ((wrap64 (a0_0 * a1_0)) + (wrap64 (a0_1 * a1_1))))) = some r := h
 clear h
 obtain rfl := Option.some.inj H
 go_enter Try.func72, Try.ntmps72
 go_wp2_with (first | ((with_reducible refine gate_dst (N := 2) rfl ?_); refine box_event ?hg (N := 2) ?hd (cs := #[.int .i64 a0_0, .int .i64 a0_1]) (t := 89) ?hr ?_; (case hd => rfl); (case hg => rfl); (case hr => first | (go_simp; done) | (go_simp; rfl)); intro gb115 hg w3 hbox hb; replace BK115 := Aside0.mk (hbox); replace GW115 := Aside0.mk ((by rw [hg]; exact (below_size (ub HB)) : w.heap.size ≤ gb115)); replace GE115 := Aside0.mk ((by rw [hg]; exact (below_size (ub HB)) : w.heap.size ≤ gb115)); replace HB := Aside0.mk (below_step (ub HB) hb); clear hb hbox hg) | ((with_reducible refine gate_dst (N := 3) rfl ?_); refine box_event ?hg (N := 3) ?hd (cs := #[.int .i64 a1_0, .int .i64 a1_1]) (t := 89) ?hr ?_; (case hd => rfl); (case hg => rfl); (case hr => first | (go_simp; done) | (go_simp; rfl)); intro gb116 hg w4 hbox hb; replace BK116 := Aside0.mk (hbox); replace GW116 := Aside0.mk ((by rw [hg]; exact (below_size (by repeat (first | (with_reducible first | exact HB.out | apply below_alloc | apply pw_below_drewN | apply below_drew1 | refine below_set ?_ GE115.out) | exact HB.out))) : w.heap.size ≤ gb116)); replace GE116 := Aside0.mk ((by rw [hg]; exact (below_size (by repeat (first | (with_reducible first | exact HB.out | apply below_alloc | apply pw_below_drewN | apply below_drew1 | refine below_set ?_ GE115.out) | exact HB.out))) : w.heap.size ≤ gb116)); replace HB := Aside0.mk (below_step (by repeat (first | (with_reducible first | exact HB.out | apply below_alloc | apply pw_below_drewN | apply below_drew1 | refine below_set ?_ GE115.out) | exact HB.out)) hb); replace NB115_116 := Aside0.mk ((by rw [hg]; exact Nat.ne_of_lt (blk_lt (g := gb115) (up BK115)) : gb115 ≠ gb116)); replace NB116_115 := Aside0.mk ((by rw [hg]; exact Nat.ne_of_gt (blk_lt (g := gb115) (up BK115)) : gb116 ≠ gb115)); replace BK115 := Aside0.mk (blk_below (g := gb115) (up BK115) hb); clear hb hbox hg; have hnb5 := NB115_116.out; have hnc5 := NB116_115.out; obtain ⟨hcz6_0, hcz6_1, hfz6_0, hfz6_1⟩ := two BK115; obtain ⟨hcz7_0, hcz7_1, hfz7_0, hfz7_1⟩ := two BK116))
 go_ret
 exact ⟨by first | rfl | (simp [errW_none, errW_some] <;> rfl) | (simp [*, errW_none, errW_some] <;> rfl), by repeat (first | (with_reducible first | exact HB.out | apply below_alloc | apply pw_below_drewN | apply below_drew1 | refine below_set ?_ GE115.out | refine below_set ?_ GE116.out) | exact HB.out)⟩

/-! ### impl_size: function 94 -/
def impl_size.f (a0 : Int) : Option (Int) := if a0 < 0 then (some (wrap64 (-a0))) else (some a0)
set_option maxHeartbeats 8000000 in
set_option maxRecDepth 100000 in
theorem impl_size.calls (a0 : Int) (r : Int) (w : World) (h : impl_size.f a0 = some r) :
  Calls Try.prog 94 #[.int .i64 a0] w fun e w' => e = .returned (.int .i64 r) ∧ Drawn0 w w' := by
 have H : (if a0 < 0 then (some (wrap64 (-a0))) else (some a0)) = some r := h
 clear h
 by_cases c2 : a0 < 0
 ·rw [if_pos c2] at H
  have c2b0 : decide (a0 < 0) = true := decide_eq_true c2
  clear c2
  obtain rfl := Option.some.inj H
  go_enter Try.func94, Try.ntmps94
  go_wp2
  go_ret
  exact ⟨by first | rfl | (simp; done) | (simp [*]; done), by repeat (first | exact Drawn0.refl _ | apply Drawn0.step)⟩
 ·rw [if_neg c2] at H
  have c2b0 : decide (a0 < 0) = false := decide_eq_false c2
  clear c2
  obtain rfl := Option.some.inj H
  go_enter Try.func94, Try.ntmps94
  go_wp2
  go_ret
  exact ⟨by first | rfl | (simp; done) | (simp [*]; done), by repeat (first | exact Drawn0.refl _ | apply Drawn0.step)⟩

/-! ### impl_square: function 73 -/
def impl_square.f (a0 : Int) : Option (Int) := (impl_size.f a0).bind fun t117 => ((impl_size.f a0).bind fun t118 => (some (IntKind.u64.wrap ((IntKind.u64.wrap (t117)) * (IntKind.u64.wrap (t118))))))
set_option maxHeartbeats 8000000 in
set_option maxRecDepth 100000 in
theorem impl_square.calls (a0 : Int) (r : Int) (w : World) (h : impl_square.f a0 = some r) :
  Calls Try.prog 73 #[.int .i64 a0] w fun e w' => e = .returned (.int .u64 r) ∧ Drawn0 w w' := by
 have H : ((impl_size.f a0).bind fun t117 => ((impl_size.f a0).bind fun t118 => (some (IntKind.u64.wrap ((IntKind.u64.wrap (t117)) * (IntKind.u64.wrap (t118))))))) = some r := h
 clear h
 replace H := Option.bind_eq_some_iff.mp H
 obtain ⟨t117, A20, H⟩ := H
 replace H : ((impl_size.f a0).bind fun t118 => (some (IntKind.u64.wrap ((IntKind.u64.wrap (t117)) * (IntKind.u64.wrap (t118)))))) = some r := H
 have A2 := Aside0.mk A20
 clear A20
 replace H := Option.bind_eq_some_iff.mp H
 obtain ⟨t118, A30, H⟩ := H
 replace H : (some (IntKind.u64.wrap ((IntKind.u64.wrap (t117)) * (IntKind.u64.wrap (t118))))) = some r := H
 have A3 := Aside0.mk A30
 clear A30
 obtain rfl := Option.some.inj H
 go_enter Try.func73, Try.ntmps73
 go_wp2_with (first | ((with_reducible refine gate_callee (f := 94) rfl ?_); refine goesL_ (some 4) rfl rfl Try.func94 (by kernel_rfl) rfl #[.int .i64 a0] rfl (by (try simp only [List.map_toArray, List.map_cons, List.map_nil]); first | done | rfl) ?_; (with_reducible refine (impl_size.calls a0 t117 _ A2.out).mono ?_); rintro e w' ⟨rfl, ⟨nd, rfl⟩⟩; refine ⟨_, rfl, ?_⟩) | ((with_reducible refine gate_callee (f := 94) rfl ?_); refine goesL_ (some 7) rfl rfl Try.func94 (by kernel_rfl) rfl #[.int .i64 a0] rfl (by (try simp only [List.map_toArray, List.map_cons, List.map_nil]); first | done | rfl) ?_; (with_reducible refine (impl_size.calls a0 t118 _ A3.out).mono ?_); rintro e w' ⟨rfl, ⟨nd, rfl⟩⟩; refine ⟨_, rfl, ?_⟩))
 go_ret
 exact ⟨by first | rfl | (simp; done) | (simp [*]; done), by repeat (first | exact Drawn0.refl _ | apply Drawn0.step)⟩

/-! ### impl_vec_cross: function 74 -/
def impl_vec_cross.f (a0_0 : Int) (a0_1 : Int) (a1_0 : Int) (a1_1 : Int) : Option (Int) := some (wrap64 ((wrap64 (a0_0 * a1_1)) - (wrap64 (a0_1 * a1_0))))
set_option maxHeartbeats 8000000 in
set_option maxRecDepth 100000 in
theorem impl_vec_cross.calls (a0_0 : Int) (a0_1 : Int) (a1_0 : Int) (a1_1 : Int) (r : Int) (w : World) (h : impl_vec_cross.f a0_0 a0_1 a1_0 a1_1 = some r) :
  Calls Try.prog 74 #[.agg #[.int .i64 a0_0, .int .i64 a0_1], .agg #[.int .i64 a1_0, .int .i64 a1_1]] w fun e w' => e = .returned (.int .i64 r) ∧ Below w.heap.size w w' := by
 have hu89 := Try.underlying89
 have HB := Aside0.mk (Below.refl w.heap.size w)
 have H : (some (wrap64 ((wrap64 (a0_0 * a1_1)) - (wrap64 (a0_1 * a1_0))))) = some r := h
 clear h
 obtain rfl := Option.some.inj H
 go_enter Try.func74, Try.ntmps74
 go_wp2_with (first | ((with_reducible refine gate_dst (N := 2) rfl ?_); refine box_event ?hg (N := 2) ?hd (cs := #[.int .i64 a0_0, .int .i64 a0_1]) (t := 89) ?hr ?_; (case hd => rfl); (case hg => rfl); (case hr => first | (go_simp; done) | (go_simp; rfl)); intro gb119 hg w3 hbox hb; replace BK119 := Aside0.mk (hbox); replace GW119 := Aside0.mk ((by rw [hg]; exact (below_size (ub HB)) : w.heap.size ≤ gb119)); replace GE119 := Aside0.mk ((by rw [hg]; exact (below_size (ub HB)) : w.heap.size ≤ gb119)); replace HB := Aside0.mk (below_step (ub HB) hb); clear hb hbox hg) | ((with_reducible refine gate_dst (N := 3) rfl ?_); refine box_event ?hg (N := 3) ?hd (cs := #[.int .i64 a1_0, .int .i64 a1_1]) (t := 89) ?hr ?_; (case hd => rfl); (case hg => rfl); (case hr => first | (go_simp; done) | (go_simp; rfl)); intro gb120 hg w4 hbox hb; replace BK120 := Aside0.mk (hbox); replace GW120 := Aside0.mk ((by rw [hg]; exact (below_size (by repeat (first | (with_reducible first | exact HB.out | apply below_alloc | apply pw_below_drewN | apply below_drew1 | refine below_set ?_ GE119.out) | exact HB.out))) : w.heap.size ≤ gb120)); replace GE120 := Aside0.mk ((by rw [hg]; exact (below_size (by repeat (first | (with_reducible first | exact HB.out | apply below_alloc | apply pw_below_drewN | apply below_drew1 | refine below_set ?_ GE119.out) | exact HB.out))) : w.heap.size ≤ gb120)); replace HB := Aside0.mk (below_step (by repeat (first | (with_reducible first | exact HB.out | apply below_alloc | apply pw_below_drewN | apply below_drew1 | refine below_set ?_ GE119.out) | exact HB.out)) hb); replace NB119_120 := Aside0.mk ((by rw [hg]; exact Nat.ne_of_lt (blk_lt (g := gb119) (up BK119)) : gb119 ≠ gb120)); replace NB120_119 := Aside0.mk ((by rw [hg]; exact Nat.ne_of_gt (blk_lt (g := gb119) (up BK119)) : gb120 ≠ gb119)); replace BK119 := Aside0.mk (blk_below (g := gb119) (up BK119) hb); clear hb hbox hg; have hnb5 := NB119_120.out; have hnc5 := NB120_119.out; obtain ⟨hcz6_0, hcz6_1, hfz6_0, hfz6_1⟩ := two BK119; obtain ⟨hcz7_0, hcz7_1, hfz7_0, hfz7_1⟩ := two BK120))
 go_ret
 exact ⟨by first | rfl | (simp [errW_none, errW_some] <;> rfl) | (simp [*, errW_none, errW_some] <;> rfl), by repeat (first | (with_reducible first | exact HB.out | apply below_alloc | apply pw_below_drewN | apply below_drew1 | refine below_set ?_ GE119.out | refine below_set ?_ GE120.out) | exact HB.out)⟩

/-! ### impl_Behind: function 29 -/
def impl_Behind.f (k : Nat) (a0_0 : Int) (a0_1 : Int) (a0_2 : Int) (a0_3 : Int) (a0_4 : Int) (a0_5 : Int) (a1_0 : Int) (a1_1 : Int) (a1_2 : Int) (a1_3 : Int) (a1_4 : Int) (a1_5 : Int) : Option (Bool) := (impl_ShipOk.f a0_0 a0_1 a0_2 a0_3 a0_4 a0_5).bind fun s1 => (impl_ShipOk.f a1_0 a1_1 a1_2 a1_3 a1_4 a1_5).bind fun s2 => (impl_bearing.f a0_0 a0_1 a0_2 a0_3 a0_4 a0_5 a1_0 a1_1 a1_2 a1_3 a1_4 a1_5).bind fun b => (impl_vec_dot.f b.1 b.2 a1_2 a1_3).bind fun d => (impl_vec_cross.f b.1 b.2 a1_2 a1_3).bind fun c => (impl_square.f c).bind fun q1 => (impl_square.f d).bind fun q2 => some (s1 && s2 && (decide (d < 0) && decide (IntKind.u64.wrap (q1 * 5) ≤ IntKind.u64.wrap (q2 * 29))))
theorem impl_Behind.mono : ∀ a0_0 a0_1 a0_2 a0_3 a0_4 a0_5 a1_0 a1_1 a1_2 a1_3 a1_4 a1_5 k, LeO (impl_Behind.f k a0_0 a0_1 a0_2 a0_3 a0_4 a0_5 a1_0 a1_1 a1_2 a1_3 a1_4 a1_5) (impl_Behind.f (k + 1) a0_0 a0_1 a0_2 a0_3 a0_4 a0_5 a1_0 a1_1 a1_2 a1_3 a1_4 a1_5) := fun _ _ _ _ _ _ _ _ _ _ _ _ _ => LeO.refl _
theorem impl_Behind.calls (k : Nat) (a0_0 : Int) (a0_1 : Int) (a0_2 : Int) (a0_3 : Int) (a0_4 : Int) (a0_5 : Int) (a1_0 : Int) (a1_1 : Int) (a1_2 : Int) (a1_3 : Int) (a1_4 : Int) (a1_5 : Int) (r : Bool) (w : World) (h : impl_Behind.f k a0_0 a0_1 a0_2 a0_3 a0_4 a0_5 a1_0 a1_1 a1_2 a1_3 a1_4 a1_5 = some r) :
  Calls Try.prog 29 #[.agg #[.int .i64 a0_0, .int .i64 a0_1, .int .i64 a0_2, .int .i64 a0_3, .int .i64 a0_4, .int .i64 a0_5], .agg #[.int .i64 a1_0, .int .i64 a1_1, .int .i64 a1_2, .int .i64 a1_3, .int .i64 a1_4, .int .i64 a1_5]] w fun e w' => e = .returned (.bool r) ∧ Below w.heap.size w w' := by
 unfold impl_Behind.f at h
 obtain ⟨s1, e0, h⟩ := Option.bind_eq_some_iff.mp h
 obtain ⟨s2, e1, h⟩ := Option.bind_eq_some_iff.mp h
 obtain ⟨b, e2, h⟩ := Option.bind_eq_some_iff.mp h
 obtain ⟨d, e3, h⟩ := Option.bind_eq_some_iff.mp h
 obtain ⟨c, e4, h⟩ := Option.bind_eq_some_iff.mp h
 obtain ⟨q1, e5, h⟩ := Option.bind_eq_some_iff.mp h
 obtain ⟨q2, e6, h⟩ := Option.bind_eq_some_iff.mp h
 obtain rfl := Option.some.inj h
 exact Ai.ibehind_any a0_0 a0_1 a0_2 a0_3 a0_4 a0_5 a1_0 a1_1 a1_2 a1_3 a1_4 a1_5 b.1 b.2 d c q1 q2 s1 s2 w (fun W => impl_ShipOk.calls a0_0 a0_1 a0_2 a0_3 a0_4 a0_5 s1 W e0) (fun W => impl_ShipOk.calls a1_0 a1_1 a1_2 a1_3 a1_4 a1_5 s2 W e1) (fun W => impl_bearing.calls a0_0 a0_1 a0_2 a0_3 a0_4 a0_5 a1_0 a1_1 a1_2 a1_3 a1_4 a1_5 b.1 b.2 W e2) (fun W => impl_Ship_way.calls a1_0 a1_1 a1_2 a1_3 a1_4 a1_5 a1_2 a1_3 W rfl) (fun W => impl_vec_dot.calls b.1 b.2 a1_2 a1_3 d W e3) (fun W => impl_vec_cross.calls b.1 b.2 a1_2 a1_3 c W e4) (fun W => (impl_square.calls c q1 W e5).mono fun _ _ q => ⟨q.1, q.2.below⟩) (fun W => (impl_square.calls d q2 W e6).mono fun _ _ q => ⟨q.1, q.2.below⟩)

/-! ### impl_ahead: function 76 -/
def impl_ahead.f (a0_0 : Int) (a0_1 : Int) (a1_0 : Int) (a1_1 : Int) : Option (Bool) := (impl_vec_dot.f a0_0 a0_1 a1_0 a1_1).bind fun t123 => (if t123 > 0 then ((impl_vec_cross.f a0_0 a0_1 a1_0 a1_1).bind fun t124 => ((impl_square.f t124).bind fun t125 => ((impl_vec_dot.f a0_0 a0_1 a1_0 a1_1).bind fun t126 => ((impl_square.f t126).bind fun t127 => (some (decide ((IntKind.u64.wrap (t125 * 100)) ≤ t127))))))) else (some false))
def impl_ahead.T1 : Bool × List (List Nat × List Nat) := (true, [([], []), ([], []), ([0, 1], [0, 1]), ([2], [2]), ([3, 2], [3]), ([4], [4]), ([4], [4]), ([5, 6, 4, 4], [4, 5, 6]), ([7, 7, 4], [4, 7]), ([8, 4], [4, 8]), ([4], [4]), ([4], [4]), ([10, 11, 8, 4], [4, 10, 11]), ([12, 12, 4], [4, 12]), ([9, 13, 4], [4, 9, 13]), ([4, 14], [4, 14]), ([15, 13, 0, 1, 2, 3, 4, 5, 6, 7, 8, 9, 10, 11, 12, 13, 14, 15], [15])])
def impl_ahead.B1 : List Nat := [0, 0, 3, 7, 15, 31, 31, 127, 255, 511, 31, 31, 3583, 7679, 16383, 32767, 65535]
theorem impl_ahead.tab1 : rtab .any (opsOf Try.f76 1) = impl_ahead.T1 := by kernel_rfl
theorem impl_ahead.bits1 : waitsOk impl_ahead.T1.2 impl_ahead.B1 = true := by kernel_rfl
set_option maxHeartbeats 8000000 in
set_option maxRecDepth 100000 in
theorem impl_ahead.calls (a0_0 : Int) (a0_1 : Int) (a1_0 : Int) (a1_1 : Int) (r : Bool) (w : World) (h : impl_ahead.f a0_0 a0_1 a1_0 a1_1 = some r) :
  Calls Try.prog 76 #[.agg #[.int .i64 a0_0, .int .i64 a0_1], .agg #[.int .i64 a1_0, .int .i64 a1_1]] w fun e w' => e = .returned (.bool r) ∧ Below w.heap.size w w' := by
 have hu89 := Try.underlying89
 have HB := Aside0.mk (Below.refl w.heap.size w)
 have H : ((impl_vec_dot.f a0_0 a0_1 a1_0 a1_1).bind fun t123 => (if t123 > 0 then ((impl_vec_cross.f a0_0 a0_1 a1_0 a1_1).bind fun t124 => ((impl_square.f t124).bind fun t125 => ((impl_vec_dot.f a0_0 a0_1 a1_0 a1_1).bind fun t126 => ((impl_square.f t126).bind fun t127 => (some (decide ((IntKind.u64.wrap (t125 * 100)) ≤ t127))))))) else (some false))) = some r := h
 clear h
 replace H := Option.bind_eq_some_iff.mp H
 obtain ⟨t123, A30, H⟩ := H
 replace H : (if t123 > 0 then ((impl_vec_cross.f a0_0 a0_1 a1_0 a1_1).bind fun t124 => ((impl_square.f t124).bind fun t125 => ((impl_vec_dot.f a0_0 a0_1 a1_0 a1_1).bind fun t126 => ((impl_square.f t126).bind fun t127 => (some (decide ((IntKind.u64.wrap (t125 * 100)) ≤ t127))))))) else (some false)) = some r := H
 have A3 := Aside0.mk A30
 clear A30
 by_cases c4 : t123 > 0
 ·rw [if_pos c4] at H
  have c4b0 : decide (0 < t123) = true := decide_eq_true c4
  clear c4
  replace H := Option.bind_eq_some_iff.mp H
  obtain ⟨t124, A50, H⟩ := H
  replace H : ((impl_square.f t124).bind fun t125 => ((impl_vec_dot.f a0_0 a0_1 a1_0 a1_1).bind fun t126 => ((impl_square.f t126).bind fun t127 => (some (decide ((IntKind.u64.wrap (t125 * 100)) ≤ t127)))))) = some r := H
  have A5 := Aside0.mk A50
  clear A50
  replace H := Option.bind_eq_some_iff.mp H
  obtain ⟨t125, A60, H⟩ := H
  replace H : ((impl_vec_dot.f a0_0 a0_1 a1_0 a1_1).bind fun t126 => ((impl_square.f t126).bind fun t127 => (some (decide ((IntKind.u64.wrap (t125 * 100)) ≤ t127))))) = some r := H
  have A6 := Aside0.mk A60
  clear A60
  replace H := Option.bind_eq_some_iff.mp H
  obtain ⟨t126, A70, H⟩ := H
  replace H : ((impl_square.f t126).bind fun t127 => (some (decide ((IntKind.u64.wrap (t125 * 100)) ≤ t127)))) = some r := H
  have A7 := Aside0.mk A70
  clear A70
  replace H := Option.bind_eq_some_iff.mp H
  obtain ⟨t127, A80, H⟩ := H
  replace H : (some (decide ((IntKind.u64.wrap (t125 * 100)) ≤ t127))) = some r := H
  have A8 := Aside0.mk A80
  clear A80
  obtain rfl := Option.some.inj H
  go_enter Try.func76, Try.ntmps76
  try go_wp2_with (first | ((with_reducible refine gate_dst (N := 2) rfl ?_); refine box_event ?hg (N := 2) ?hd (cs := #[.int .i64 a0_0, .int .i64 a0_1]) (t := 89) ?hr ?_; (case hd => rfl); (case hg => rfl); (case hr => first | (go_simp; done) | (go_simp; rfl)); intro gb121 hg w9 hbox hb; replace BK121 := Aside0.mk (hbox); replace GW121 := Aside0.mk ((by rw [hg]; exact (below_size (ub HB)) : w.heap.size ≤ gb121)); replace GE121 := Aside0.mk ((by rw [hg]; exact (below_size (ub HB)) : w.heap.size ≤ gb121)); replace HB := Aside0.mk (below_step (ub HB) hb); clear hb hbox hg) | ((with_reducible refine gate_dst (N := 3) rfl ?_); refine box_event ?hg (N := 3) ?hd (cs := #[.int .i64 a1_0, .int .i64 a1_1]) (t := 89) ?hr ?_; (case hd => rfl); (case hg => rfl); (case hr => first | (go_simp; done) | (go_simp; rfl)); intro gb122 hg w10 hbox hb; replace BK122 := Aside0.mk (hbox); replace GW122 := Aside0.mk ((by rw [hg]; exact (below_size (by repeat (first | (with_reducible first | exact HB.out | apply below_alloc | apply pw_below_drewN | apply below_drew1 | refine below_set ?_ GE121.out) | exact HB.out))) : w.heap.size ≤ gb122)); replace GE122 := Aside0.mk ((by rw [hg]; exact (below_size (by repeat (first | (with_reducible first | exact HB.out | apply below_alloc | apply pw_below_drewN | apply below_drew1 | refine below_set ?_ GE121.out) | exact HB.out))) : w.heap.size ≤ gb122)); replace HB := Aside0.mk (below_step (by repeat (first | (with_reducible first | exact HB.out | apply below_alloc | apply pw_below_drewN | apply below_drew1 | refine below_set ?_ GE121.out) | exact HB.out)) hb); replace NB121_122 := Aside0.mk ((by rw [hg]; exact Nat.ne_of_lt (blk_lt (g := gb121) (up BK121)) : gb121 ≠ gb122)); replace NB122_121 := Aside0.mk ((by rw [hg]; exact Nat.ne_of_gt (blk_lt (g := gb121) (up BK121)) : gb122 ≠ gb121)); replace BK121 := Aside0.mk (blk_below (g := gb121) (up BK121) hb); clear hb hbox hg))
  replace BK121 := Aside0.mk (blk_drew BK121.out)
  replace BK122 := Aside0.mk (blk_drew BK122.out)
  replace HB := Aside0.mk (below_drew1 HB.out)
  refine start_ (n := 17) (S := fun w' => w'.cell? ⟨gb121, 0, none⟩ = some (.int .i64 a0_0) ∧ w'.cell? ⟨gb121, 1, none⟩ = some (.int .i64 a0_1) ∧ w'.cell? ⟨gb122, 0, none⟩ = some (.int .i64 a1_0) ∧ w'.cell? ⟨gb122, 1, none⟩ = some (.int .i64 a1_1)) (ds := []) #[false, false, false, false, false, false, false, false, false, false, false, false, false, false, false, false, false] (by kernel_rfl) rfl rfl ⟨(blk_cell BK121.out 0).trans rfl, (blk_cell BK121.out 1).trans rfl, (blk_cell BK122.out 0).trans rfl, (blk_cell BK122.out 1).trans rfl⟩ (fun hHeld => ?_); refine with_tabW impl_ahead.tab1 impl_ahead.bits1 (fun HT_ HW_ => ?_)
  generalize w10.drew = w11 at BK121 BK122 HB hHeld ⊢
  refine take_ (i := 0) (N := some 5) (v := ?_) (a' := ?_) (bz 17 1) rfl rfl (take_ofW HT_.out HW_.out (by kernel_rfl)) (fun _ _ _ h => h) (Or.inl ⟨by rfl, ?_⟩) hHeld ?_ ?_
  rotate_left
  ·rintro w' ⟨s0, s1, s2, s3⟩
   go_simp
   with_reducible rfl
  rotate_left
  ·simp only [Act.put, y1, y2, y3, i64_w, i32_w]
   rfl
  refine take_ (i := 1) (N := some 6) (v := ?_) (a' := ?_) (bz 17 3) rfl rfl (take_ofW HT_.out HW_.out (by kernel_rfl)) (fun _ _ _ h => h) (Or.inl ⟨by rfl, ?_⟩) hHeld ?_ ?_
  rotate_left
  ·rintro w' ⟨s0, s1, s2, s3⟩
   go_simp
   with_reducible rfl
  rotate_left
  ·simp only [Act.put, y1, y2, y3, i64_w, i32_w]
   rfl
  refine one_ (i := 2) (N := some 7) (bz 17 7) rfl rfl (one_of HT_.out (by kernel_rfl)) (by decide) (fun K hK => ?_)
  refine goes_ Try.func72 (by kernel_rfl) rfl #[.agg #[.int .i64 a0_0, .int .i64 a0_1], .agg #[.int .i64 a1_0, .int .i64 a1_1]] (by rfl) rfl rfl (by (try simp only [List.map_toArray, List.map_cons, List.map_nil]); first | done | rfl) ?_
  with_reducible refine (impl_vec_dot.calls a0_0 a0_1 a1_0 a1_1 t123 _ A3.out).mono ?_
  rintro e w12 ⟨rfl, hb⟩
  refine ⟨_, rfl, ?_⟩
  replace BK121 := Aside0.mk (blk_below (g := gb121) (up BK121) hb)
  replace BK122 := Aside0.mk (blk_below (g := gb122) (up BK122) hb)
  replace HB := Aside0.mk (below_step (by repeat (first | (with_reducible first | exact HB.out | apply below_alloc | apply pw_below_drewN | apply below_drew1 | refine below_set ?_ GE121.out | refine below_set ?_ GE122.out) | exact HB.out)) hb)
  (try clear hb)
  (try clear hb2)
  (try clear hk)
  (try clear hi)
  refine hK.out _ _ ⟨(blk_cell BK121.out 0).trans rfl, (blk_cell BK121.out 1).trans rfl, (blk_cell BK122.out 0).trans rfl, (blk_cell BK122.out 1).trans rfl⟩ (fun hHeld => ?_)
  clear hK K
  refine norm_ (a' := ?_) ?_ ?_
  rotate_left
  ·show Act.put _ (some 7) _ = _
   simp only [Act.put, y1, y2, y3, i64_w, i32_w]
   rfl
  refine pure_ (i := 3) (N := some 8) (v := ?_) (a' := ?_) (bz 17 15) rfl rfl (any_of HT_.out (by kernel_rfl)) (fun _ _ _ h => h) (Or.inl ⟨by rfl, ?_⟩) ?_ ?_
  rotate_left
  ·intro w'
   go_simp
   with_reducible rfl
  rotate_left
  ·simp only [Act.put, y1, y2, y3, i64_w, i32_w]
   rfl
  refine pure_ (i := 4) (N := some 9) (v := ?_) (a' := ?_) (bz 17 31) rfl rfl (any_of HT_.out (by kernel_rfl)) (fun _ _ _ h => h) (Or.inl ⟨by rfl, ?_⟩) ?_ ?_
  rotate_left
  ·intro w'
   go_simp
   with_reducible rfl
  rotate_left
  ·simp only [Act.put, y1, y2, y3, i64_w, i32_w]
   rfl
  refine take_ (i := 5) (N := some 10) (v := ?_) (a' := ?_) (bz 17 63) rfl rfl (take_ofW HT_.out HW_.out (by kernel_rfl)) (fun _ _ _ h => h) (Or.inl ⟨by rfl, ?_⟩) hHeld ?_ ?_
  rotate_left
  ·rintro w' ⟨s0, s1, s2, s3⟩
   go_simp
   with_reducible rfl
  rotate_left
  ·simp only [Act.put, y1, y2, y3, i64_w, i32_w]
   rfl
  refine take_ (i := 6) (N := some 11) (v := ?_) (a' := ?_) (bz 17 127) rfl rfl (take_ofW HT_.out HW_.out (by kernel_rfl)) (fun _ _ _ h => h) (Or.inl ⟨by rfl, ?_⟩) hHeld ?_ ?_
  rotate_left
  ·rintro w' ⟨s0, s1, s2, s3⟩
   go_simp
   with_reducible rfl
  rotate_left
  ·simp only [Act.put, y1, y2, y3, i64_w, i32_w]
   rfl
  refine take_ (i := 10) (N := some 15) (v := ?_) (a' := ?_) (bz 17 1151) rfl rfl (take_ofW HT_.out HW_.out (by kernel_rfl)) (fun _ _ _ h => h) (Or.inl ⟨by rfl, ?_⟩) hHeld ?_ ?_
  rotate_left
  ·rintro w' ⟨s0, s1, s2, s3⟩
   go_simp
   with_reducible rfl
  rotate_left
  ·simp only [Act.put, y1, y2, y3, i64_w, i32_w]
   rfl
  refine take_ (i := 11) (N := some 16) (v := ?_) (a' := ?_) (bz 17 3199) rfl rfl (take_ofW HT_.out HW_.out (by kernel_rfl)) (fun _ _ _ h => h) (Or.inl ⟨by rfl, ?_⟩) hHeld ?_ ?_
  rotate_left
  ·rintro w' ⟨s0, s1, s2, s3⟩
   go_simp
   with_reducible rfl
  rotate_left
  ·simp only [Act.put, y1, y2, y3, i64_w, i32_w]
   rfl
  refine one_ (i := 7) (N := some 12) (bz 17 3327) rfl rfl (one_of HT_.out (by kernel_rfl)) (by decide) (fun K hK => ?_)
  refine goes_ Try.func74 (by kernel_rfl) rfl #[.agg #[.int .i64 a0_0, .int .i64 a0_1], .agg #[.int .i64 a1_0, .int .i64 a1_1]] (by rfl) rfl rfl (by (try simp only [List.map_toArray, List.map_cons, List.map_nil]); first | done | rfl) ?_
  with_reducible refine (impl_vec_cross.calls a0_0 a0_1 a1_0 a1_1 t124 _ A5.out).mono ?_
  rintro e w13 ⟨rfl, hb⟩
  refine ⟨_, rfl, ?_⟩
  replace BK121 := Aside0.mk (blk_below (g := gb121) (up BK121) hb)
  replace BK122 := Aside0.mk (blk_below (g := gb122) (up BK122) hb)
  replace HB := Aside0.mk (below_step (by repeat (first | (with_reducible first | exact HB.out | apply below_alloc | apply pw_below_drewN | apply below_drew1 | refine below_set ?_ GE121.out | refine below_set ?_ GE122.out) | exact HB.out)) hb)
  (try clear hb)
  (try clear hb2)
  (try clear hk)
  (try clear hi)
  refine hK.out _ _ ⟨(blk_cell BK121.out 0).trans rfl, (blk_cell BK121.out 1).trans rfl, (blk_cell BK122.out 0).trans rfl, (blk_cell BK122.out 1).trans rfl⟩ (fun hHeld => ?_)
  clear hK K
  refine norm_ (a' := ?_) ?_ ?_
  rotate_left
  ·show Act.put _ (some 12) _ = _
   simp only [Act.put, y1, y2, y3, i64_w, i32_w]
   rfl
  refine one_ (i := 8) (N := some 13) (bz 17 3583) rfl rfl (one_of HT_.out (by kernel_rfl)) (by decide) (fun K hK => ?_)
  refine goes_ Try.func73 (by kernel_rfl) rfl #[.int .i64 t124] (by rfl) rfl rfl (by (try simp only [List.map_toArray, List.map_cons, List.map_nil]); first | done | rfl) ?_
  with_reducible refine (impl_square.calls t124 t125 _ A6.out).mono ?_
  rintro e w' ⟨rfl, ⟨nd, rfl⟩⟩
  refine ⟨_, rfl, ?_⟩
  refine hK.out _ _ ⟨(blk_cell BK121.out 0).trans rfl, (blk_cell BK121.out 1).trans rfl, (blk_cell BK122.out 0).trans rfl, (blk_cell BK122.out 1).trans rfl⟩ (fun hHeld => ?_)
  clear hK K
  refine norm_ (a' := ?_) ?_ ?_
  rotate_left
  ·show Act.put _ (some 13) _ = _
   simp only [Act.put, y1, y2, y3, i64_w, i32_w]
   rfl
  refine pure_ (i := 9) (N := some 14) (v := ?_) (a' := ?_) (bz 17 4095) rfl rfl (any_of HT_.out (by kernel_rfl)) (fun _ _ _ h => h) (Or.inl ⟨by rfl, ?_⟩) ?_ ?_
  rotate_left
  ·intro w'
   go_simp
   with_reducible rfl
  rotate_left
  ·simp only [Act.put, y1, y2, y3, i64_w, i32_w]
   rfl
  refine one_ (i := 12) (N := some 17) (bz 17 8191) rfl rfl (one_of HT_.out (by kernel_rfl)) (by decide) (fun K hK => ?_)
  refine goes_ Try.func72 (by kernel_rfl) rfl #[.agg #[.int .i64 a0_0, .int .i64 a0_1], .agg #[.int .i64 a1_0, .int .i64 a1_1]] (by rfl) rfl rfl (by (try simp only [List.map_toArray, List.map_cons, List.map_nil]); first | done | rfl) ?_
  with_reducible refine (impl_vec_dot.calls a0_0 a0_1 a1_0 a1_1 t126 _ A7.out).mono ?_
  rintro e w14 ⟨rfl, hb⟩
  refine ⟨_, rfl, ?_⟩
  replace BK121 := Aside0.mk (blk_below (g := gb121) (up BK121) hb)
  replace BK122 := Aside0.mk (blk_below (g := gb122) (up BK122) hb)
  replace HB := Aside0.mk (below_step (by repeat (first | (with_reducible first | exact HB.out | apply below_alloc | apply pw_below_drewN | apply below_drew1 | refine below_set ?_ GE121.out | refine below_set ?_ GE122.out) | exact HB.out)) hb)
  (try clear hb)
  (try clear hb2)
  (try clear hk)
  (try clear hi)
  refine hK.out _ _ ⟨(blk_cell BK121.out 0).trans rfl, (blk_cell BK121.out 1).trans rfl, (blk_cell BK122.out 0).trans rfl, (blk_cell BK122.out 1).trans rfl⟩ (fun hHeld => ?_)
  clear hK K
  refine norm_ (a' := ?_) ?_ ?_
  rotate_left
  ·show Act.put _ (some 17) _ = _
   simp only [Act.put, y1, y2, y3, i64_w, i32_w]
   rfl
  refine one_ (i := 13) (N := some 18) (bz 17 16383) rfl rfl (one_of HT_.out (by kernel_rfl)) (by decide) (fun K hK => ?_)
  refine goes_ Try.func73 (by kernel_rfl) rfl #[.int .i64 t126] (by rfl) rfl rfl (by (try simp only [List.map_toArray, List.map_cons, List.map_nil]); first | done | rfl) ?_
  with_reducible refine (impl_square.calls t126 t127 _ A8.out).mono ?_
  rintro e w' ⟨rfl, ⟨nd, rfl⟩⟩
  refine ⟨_, rfl, ?_⟩
  refine hK.out _ _ ⟨(blk_cell BK121.out 0).trans rfl, (blk_cell BK121.out 1).trans rfl, (blk_cell BK122.out 0).trans rfl, (blk_cell BK122.out 1).trans rfl⟩ (fun hHeld => ?_)
  clear hK K
  refine norm_ (a' := ?_) ?_ ?_
  rotate_left
  ·show Act.put _ (some 18) _ = _
   simp only [Act.put, y1, y2, y3, i64_w, i32_w]
   rfl
  refine pure_ (i := 14) (N := some 19) (v := ?_) (a' := ?_) (bz 17 32767) rfl rfl (any_of HT_.out (by kernel_rfl)) (fun _ _ _ h => h) (Or.inl ⟨by rfl, ?_⟩) ?_ ?_
  rotate_left
  ·intro w'
   go_simp
   with_reducible rfl
  rotate_left
  ·simp only [Act.put, y1, y2, y3, i64_w, i32_w]
   rfl
  refine pure_ (i := 15) (N := some 20) (v := ?_) (a' := ?_) (bz 17 65535) rfl rfl (any_of HT_.out (by kernel_rfl)) (fun _ _ _ h => h) (Or.inl ⟨by rfl, ?_⟩) ?_ ?_
  rotate_left
  ·intro w'
   go_simp
   with_reducible rfl
  rotate_left
  ·simp only [Act.put, y1, y2, y3, i64_w, i32_w]
   rfl
  refine pure_ (i := 16) (N := some 4) (v := ?_) (a' := ?_) (bz 17 131071) rfl rfl (any_of HT_.out (by kernel_rfl)) (fun _ _ _ h => h) (Or.inl ⟨by rfl, ?_⟩) ?_ ?_
  rotate_left
  ·intro w'
   go_simp
   with_reducible rfl
  rotate_left
  ·simp only [Act.put, y1, y2, y3, i64_w, i32_w]
   rfl
  refine done_ (done_of HT_.out (by kernel_rfl)) ?_
  try go_wp2
  go_ret
  exact ⟨by first | rfl | (simp [errW_none, errW_some] <;> rfl) | (simp [*, errW_none, errW_some] <;> rfl), by repeat (first | (with_reducible first | exact HB.out | apply below_alloc | apply pw_below_drewN | apply below_drew1 | refine below_set ?_ GE121.out | refine below_set ?_ GE122.out) | exact HB.out)⟩
 ·rw [if_neg c4] at H
  have c4b0 : decide (0 < t123) = false := decide_eq_false c4
  clear c4
  obtain rfl := Option.some.inj H
  go_enter Try.func76, Try.ntmps76
  try go_wp2_with (first | ((with_reducible refine gate_dst (N := 2) rfl ?_); refine box_event ?hg (N := 2) ?hd (cs := #[.int .i64 a0_0, .int .i64 a0_1]) (t := 89) ?hr ?_; (case hd => rfl); (case hg => rfl); (case hr => first | (go_simp; done) | (go_simp; rfl)); intro gb121 hg w15 hbox hb; replace BK121 := Aside0.mk (hbox); replace GW121 := Aside0.mk ((by rw [hg]; exact (below_size (ub HB)) : w.heap.size ≤ gb121)); replace GE121 := Aside0.mk ((by rw [hg]; exact (below_size (ub HB)) : w.heap.size ≤ gb121)); replace HB := Aside0.mk (below_step (ub HB) hb); clear hb hbox hg) | ((with_reducible refine gate_dst (N := 3) rfl ?_); refine box_event ?hg (N := 3) ?hd (cs := #[.int .i64 a1_0, .int .i64 a1_1]) (t := 89) ?hr ?_; (case hd => rfl); (case hg => rfl); (case hr => first | (go_simp; done) | (go_simp; rfl)); intro gb122 hg w16 hbox hb; replace BK122 := Aside0.mk (hbox); replace GW122 := Aside0.mk ((by rw [hg]; exact (below_size (by repeat (first | (with_reducible first | exact HB.out | apply below_alloc | apply pw_below_drewN | apply below_drew1 | refine below_set ?_ GE121.out) | exact HB.out))) : w.heap.size ≤ gb122)); replace GE122 := Aside0.mk ((by rw [hg]; exact (below_size (by repeat (first | (with_reducible first | exact HB.out | apply below_alloc | apply pw_below_drewN | apply below_drew1 | refine below_set ?_ GE121.out) | exact HB.out))) : w.heap.size ≤ gb122)); replace HB := Aside0.mk (below_step (by repeat (first | (with_reducible first | exact HB.out | apply below_alloc | apply pw_below_drewN | apply below_drew1 | refine below_set ?_ GE121.out) | exact HB.out)) hb); replace NB121_122 := Aside0.mk ((by rw [hg]; exact Nat.ne_of_lt (blk_lt (g := gb121) (up BK121)) : gb121 ≠ gb122)); replace NB122_121 := Aside0.mk ((by rw [hg]; exact Nat.ne_of_gt (blk_lt (g := gb121) (up BK121)) : gb122 ≠ gb121)); replace BK121 := Aside0.mk (blk_below (g := gb121) (up BK121) hb); clear hb hbox hg))
  replace BK121 := Aside0.mk (blk_drew BK121.out)
  replace BK122 := Aside0.mk (blk_drew BK122.out)
  replace HB := Aside0.mk (below_drew1 HB.out)
  refine start_ (n := 17) (S := fun w' => w'.cell? ⟨gb121, 0, none⟩ = some (.int .i64 a0_0) ∧ w'.cell? ⟨gb121, 1, none⟩ = some (.int .i64 a0_1) ∧ w'.cell? ⟨gb122, 0, none⟩ = some (.int .i64 a1_0) ∧ w'.cell? ⟨gb122, 1, none⟩ = some (.int .i64 a1_1)) (ds := []) #[false, false, false, false, false, false, false, false, false, false, false, false, false, false, false, false, false] (by kernel_rfl) rfl rfl ⟨(blk_cell BK121.out 0).trans rfl, (blk_cell BK121.out 1).trans rfl, (blk_cell BK122.out 0).trans rfl, (blk_cell BK122.out 1).trans rfl⟩ (fun hHeld => ?_); refine with_tabW impl_ahead.tab1 impl_ahead.bits1 (fun HT_ HW_ => ?_)
  generalize w16.drew = w17 at BK121 BK122 HB hHeld ⊢
  refine take_ (i := 0) (N := some 5) (v := ?_) (a' := ?_) (bz 17 1) rfl rfl (take_ofW HT_.out HW_.out (by kernel_rfl)) (fun _ _ _ h => h) (Or.inl ⟨by rfl, ?_⟩) hHeld ?_ ?_
  rotate_left
  ·rintro w' ⟨s0, s1, s2, s3⟩
   go_simp
   with_reducible rfl
  rotate_left
  ·simp only [Act.put, y1, y2, y3, i64_w, i32_w]
   rfl
  refine take_ (i := 1) (N := some 6) (v := ?_) (a' := ?_) (bz 17 3) rfl rfl (take_ofW HT_.out HW_.out (by kernel_rfl)) (fun _ _ _ h => h) (Or.inl ⟨by rfl, ?_⟩) hHeld ?_ ?_
  rotate_left
  ·rintro w' ⟨s0, s1, s2, s3⟩
   go_simp
   with_reducible rfl
  rotate_left
  ·simp only [Act.put, y1, y2, y3, i64_w, i32_w]
   rfl
  refine one_ (i := 2) (N := some 7) (bz 17 7) rfl rfl (one_of HT_.out (by kernel_rfl)) (by decide) (fun K hK => ?_)
  refine goes_ Try.func72 (by kernel_rfl) rfl #[.agg #[.int .i64 a0_0, .int .i64 a0_1], .agg #[.int .i64 a1_0, .int .i64 a1_1]] (by rfl) rfl rfl (by (try simp only [List.map_toArray, List.map_cons, List.map_nil]); first | done | rfl) ?_
  with_reducible refine (impl_vec_dot.calls a0_0 a0_1 a1_0 a1_1 t123 _ A3.out).mono ?_
  rintro e w18 ⟨rfl, hb⟩
  refine ⟨_, rfl, ?_⟩
  replace BK121 := Aside0.mk (blk_below (g := gb121) (up BK121) hb)
  replace BK122 := Aside0.mk (blk_below (g := gb122) (up BK122) hb)
  replace HB := Aside0.mk (below_step (by repeat (first | (with_reducible first | exact HB.out | apply below_alloc | apply pw_below_drewN | apply below_drew1 | refine below_set ?_ GE121.out | refine below_set ?_ GE122.out) | exact HB.out)) hb)
  (try clear hb)
  (try clear hb2)
  (try clear hk)
  (try clear hi)
  refine hK.out _ _ ⟨(blk_cell BK121.out 0).trans rfl, (blk_cell BK121.out 1).trans rfl, (blk_cell BK122.out 0).trans rfl, (blk_cell BK122.out 1).trans rfl⟩ (fun hHeld => ?_)
  clear hK K
  refine norm_ (a' := ?_) ?_ ?_
  rotate_left
  ·show Act.put _ (some 7) _ = _
   simp only [Act.put, y1, y2, y3, i64_w, i32_w]
   rfl
  refine pure_ (i := 3) (N := some 8) (v := ?_) (a' := ?_) (bz 17 15) rfl rfl (any_of HT_.out (by kernel_rfl)) (fun _ _ _ h => h) (Or.inl ⟨by rfl, ?_⟩) ?_ ?_
  rotate_left
  ·intro w'
   go_simp
   with_reducible rfl
  rotate_left
  ·simp only [Act.put, y1, y2, y3, i64_w, i32_w]
   rfl
  refine pure_ (i := 4) (N := some 9) (v := ?_) (a' := ?_) (bz 17 31) rfl rfl (any_of HT_.out (by kernel_rfl)) (fun _ _ _ h => h) (Or.inl ⟨by rfl, ?_⟩) ?_ ?_
  rotate_left
  ·intro w'
   go_simp
   with_reducible rfl
  rotate_left
  ·simp only [Act.put, y1, y2, y3, i64_w, i32_w]
   rfl
  refine pure_ (i := 5) (N := some 10) (v := undef) (a' := ?_) (bz 17 63) rfl rfl (any_of HT_.out (by kernel_rfl)) (fun _ _ _ h => h) (Or.inr ⟨by rfl, rfl⟩) ?_ ?_
  rotate_left
  ·simp only [Act.put, y1, y2, y3, i64_w, i32_w]
   rfl
  refine pure_ (i := 6) (N := some 11) (v := undef) (a' := ?_) (bz 17 127) rfl rfl (any_of HT_.out (by kernel_rfl)) (fun _ _ _ h => h) (Or.inr ⟨by rfl, rfl⟩) ?_ ?_
  rotate_left
  ·simp only [Act.put, y1, y2, y3, i64_w, i32_w]
   rfl
  refine pure_ (i := 7) (N := some 12) (v := undef) (a' := ?_) (bz 17 255) rfl rfl (any_of HT_.out (by kernel_rfl)) (fun _ _ _ h => h) (Or.inr ⟨by rfl, rfl⟩) ?_ ?_
  rotate_left
  ·simp only [Act.put, y1, y2, y3, i64_w, i32_w]
   rfl
  refine pure_ (i := 8) (N := some 13) (v := undef) (a' := ?_) (bz 17 511) rfl rfl (any_of HT_.out (by kernel_rfl)) (fun _ _ _ h => h) (Or.inr ⟨by rfl, rfl⟩) ?_ ?_
  rotate_left
  ·simp only [Act.put, y1, y2, y3, i64_w, i32_w]
   rfl
  refine pure_ (i := 9) (N := some 14) (v := undef) (a' := ?_) (bz 17 1023) rfl rfl (any_of HT_.out (by kernel_rfl)) (fun _ _ _ h => h) (Or.inr ⟨by rfl, rfl⟩) ?_ ?_
  rotate_left
  ·simp only [Act.put, y1, y2, y3, i64_w, i32_w]
   rfl
  refine pure_ (i := 10) (N := some 15) (v := undef) (a' := ?_) (bz 17 2047) rfl rfl (any_of HT_.out (by kernel_rfl)) (fun _ _ _ h => h) (Or.inr ⟨by rfl, rfl⟩) ?_ ?_
  rotate_left
  ·simp only [Act.put, y1, y2, y3, i64_w, i32_w]
   rfl
  refine pure_ (i := 11) (N := some 16) (v := undef) (a' := ?_) (bz 17 4095) rfl rfl (any_of HT_.out (by kernel_rfl)) (fun _ _ _ h => h) (Or.inr ⟨by rfl, rfl⟩) ?_ ?_
  rotate_left
  ·simp only [Act.put, y1, y2, y3, i64_w, i32_w]
   rfl
  refine pure_ (i := 12) (N := some 17) (v := undef) (a' := ?_) (bz 17 8191) rfl rfl (any_of HT_.out (by kernel_rfl)) (fun _ _ _ h => h) (Or.inr ⟨by rfl, rfl⟩) ?_ ?_
  rotate_left
  ·simp only [Act.put, y1, y2, y3, i64_w, i32_w]
   rfl
  refine pure_ (i := 13) (N := some 18) (v := undef) (a' := ?_) (bz 17 16383) rfl rfl (any_of HT_.out (by kernel_rfl)) (fun _ _ _ h => h) (Or.inr ⟨by rfl, rfl⟩) ?_ ?_
  rotate_left
  ·simp only [Act.put, y1, y2, y3, i64_w, i32_w]
   rfl
  refine pure_ (i := 14) (N := some 19) (v := undef) (a' := ?_) (bz 17 32767) rfl rfl (any_of HT_.out (by kernel_rfl)) (fun _ _ _ h => h) (Or.inr ⟨by rfl, rfl⟩) ?_ ?_
  rotate_left
  ·simp only [Act.put, y1, y2, y3, i64_w, i32_w]
   rfl
  refine pure_ (i := 15) (N := some 20) (v := ?_) (a' := ?_) (bz 17 65535) rfl rfl (any_of HT_.out (by kernel_rfl)) (fun _ _ _ h => h) (Or.inl ⟨by rfl, ?_⟩) ?_ ?_
  rotate_left
  ·intro w'
   go_simp
   with_reducible rfl
  rotate_left
  ·simp only [Act.put, y1, y2, y3, i64_w, i32_w]
   rfl
  refine pure_ (i := 16) (N := some 4) (v := ?_) (a' := ?_) (bz 17 131071) rfl rfl (any_of HT_.out (by kernel_rfl)) (fun _ _ _ h => h) (Or.inl ⟨by rfl, ?_⟩) ?_ ?_
  rotate_left
  ·intro w'
   go_simp
   with_reducible rfl
  rotate_left
  ·simp only [Act.put, y1, y2, y3, i64_w, i32_w]
   rfl
  refine done_ (done_of HT_.out (by kernel_rfl)) ?_
  try go_wp2
  go_ret
  exact ⟨by first | rfl | (simp [errW_none, errW_some] <;> rfl) | (simp [*, errW_none, errW_some] <;> rfl), by repeat (first | (with_reducible first | exact HB.out | apply below_alloc | apply pw_below_drewN | apply below_drew1 | refine below_set ?_ GE121.out | refine below_set ?_ GE122.out) | exact HB.out)⟩

/-! ### impl_HeadOn: function 31 -/
def impl_HeadOn.f (k : Nat) (a0_0 : Int) (a0_1 : Int) (a0_2 : Int) (a0_3 : Int) (a0_4 : Int) (a0_5 : Int) (a1_0 : Int) (a1_1 : Int) (a1_2 : Int) (a1_3 : Int) (a1_4 : Int) (a1_5 : Int) : Option (Bool) := (impl_ShipOk.f a0_0 a0_1 a0_2 a0_3 a0_4 a0_5).bind fun s1 => (impl_ShipOk.f a1_0 a1_1 a1_2 a1_3 a1_4 a1_5).bind fun s2 => (impl_vec_dot.f a0_2 a0_3 a1_2 a1_3).bind fun d => (impl_vec_cross.f a0_2 a0_3 a1_2 a1_3).bind fun c => (impl_square.f c).bind fun q1 => (impl_square.f d).bind fun q2 => (impl_bearing.f a1_0 a1_1 a1_2 a1_3 a1_4 a1_5 a0_0 a0_1 a0_2 a0_3 a0_4 a0_5).bind fun m => (impl_ahead.f m.1 m.2 a0_2 a0_3).bind fun h1 => (impl_bearing.f a0_0 a0_1 a0_2 a0_3 a0_4 a0_5 a1_0 a1_1 a1_2 a1_3 a1_4 a1_5).bind fun n => (impl_ahead.f n.1 n.2 a1_2 a1_3).bind fun h2 => some (s1 && s2 && (decide (d < 0) && decide (IntKind.u64.wrap (q1 * 100) ≤ q2) && h1 && h2))
theorem impl_HeadOn.mono : ∀ a0_0 a0_1 a0_2 a0_3 a0_4 a0_5 a1_0 a1_1 a1_2 a1_3 a1_4 a1_5 k, LeO (impl_HeadOn.f k a0_0 a0_1 a0_2 a0_3 a0_4 a0_5 a1_0 a1_1 a1_2 a1_3 a1_4 a1_5) (impl_HeadOn.f (k + 1) a0_0 a0_1 a0_2 a0_3 a0_4 a0_5 a1_0 a1_1 a1_2 a1_3 a1_4 a1_5) := fun _ _ _ _ _ _ _ _ _ _ _ _ _ => LeO.refl _
theorem impl_HeadOn.calls (k : Nat) (a0_0 : Int) (a0_1 : Int) (a0_2 : Int) (a0_3 : Int) (a0_4 : Int) (a0_5 : Int) (a1_0 : Int) (a1_1 : Int) (a1_2 : Int) (a1_3 : Int) (a1_4 : Int) (a1_5 : Int) (r : Bool) (w : World) (h : impl_HeadOn.f k a0_0 a0_1 a0_2 a0_3 a0_4 a0_5 a1_0 a1_1 a1_2 a1_3 a1_4 a1_5 = some r) :
  Calls Try.prog 31 #[.agg #[.int .i64 a0_0, .int .i64 a0_1, .int .i64 a0_2, .int .i64 a0_3, .int .i64 a0_4, .int .i64 a0_5], .agg #[.int .i64 a1_0, .int .i64 a1_1, .int .i64 a1_2, .int .i64 a1_3, .int .i64 a1_4, .int .i64 a1_5]] w fun e w' => e = .returned (.bool r) ∧ Below w.heap.size w w' := by
 unfold impl_HeadOn.f at h
 obtain ⟨s1, e0, h⟩ := Option.bind_eq_some_iff.mp h
 obtain ⟨s2, e1, h⟩ := Option.bind_eq_some_iff.mp h
 obtain ⟨d, e2, h⟩ := Option.bind_eq_some_iff.mp h
 obtain ⟨c, e3, h⟩ := Option.bind_eq_some_iff.mp h
 obtain ⟨q1, e4, h⟩ := Option.bind_eq_some_iff.mp h
 obtain ⟨q2, e5, h⟩ := Option.bind_eq_some_iff.mp h
 obtain ⟨m, e6, h⟩ := Option.bind_eq_some_iff.mp h
 obtain ⟨h1, e7, h⟩ := Option.bind_eq_some_iff.mp h
 obtain ⟨n, e8, h⟩ := Option.bind_eq_some_iff.mp h
 obtain ⟨h2, e9, h⟩ := Option.bind_eq_some_iff.mp h
 obtain rfl := Option.some.inj h
 exact Ai.iheadon_any a0_0 a0_1 a0_2 a0_3 a0_4 a0_5 a1_0 a1_1 a1_2 a1_3 a1_4 a1_5 d c q1 q2 m.1 m.2 n.1 n.2 s1 s2 h1 h2 w (fun W => impl_ShipOk.calls a0_0 a0_1 a0_2 a0_3 a0_4 a0_5 s1 W e0) (fun W => impl_ShipOk.calls a1_0 a1_1 a1_2 a1_3 a1_4 a1_5 s2 W e1) (fun W => impl_Ship_way.calls a0_0 a0_1 a0_2 a0_3 a0_4 a0_5 a0_2 a0_3 W rfl) (fun W => impl_Ship_way.calls a1_0 a1_1 a1_2 a1_3 a1_4 a1_5 a1_2 a1_3 W rfl) (fun W => impl_vec_dot.calls a0_2 a0_3 a1_2 a1_3 d W e2) (fun W => impl_vec_cross.calls a0_2 a0_3 a1_2 a1_3 c W e3) (fun W => (impl_square.calls c q1 W e4).mono fun _ _ q => ⟨q.1, q.2.below⟩) (fun W => (impl_square.calls d q2 W e5).mono fun _ _ q => ⟨q.1, q.2.below⟩) (fun W => impl_bearing.calls a1_0 a1_1 a1_2 a1_3 a1_4 a1_5 a0_0 a0_1 a0_2 a0_3 a0_4 a0_5 m.1 m.2 W e6) (fun W => impl_ahead.calls m.1 m.2 a0_2 a0_3 h1 W e7) (fun W => impl_bearing.calls a0_0 a0_1 a0_2 a0_3 a0_4 a0_5 a1_0 a1_1 a1_2 a1_3 a1_4 a1_5 n.1 n.2 W e8) (fun W => impl_ahead.calls n.1 n.2 a1_2 a1_3 h2 W e9)

/-! ### impl_closing: function 63 -/
def impl_closing.f (a0_0 : Int) (a0_1 : Int) (a0_2 : Int) (a0_3 : Int) (a0_4 : Int) (a0_5 : Int) (a1_0 : Int) (a1_1 : Int) (a1_2 : Int) (a1_3 : Int) (a1_4 : Int) (a1_5 : Int) : Option (Bool) := (impl_bearing.f a1_0 a1_1 a1_2 a1_3 a1_4 a1_5 a0_0 a0_1 a0_2 a0_3 a0_4 a0_5).bind fun bt130 => (if (!(bt130.1 == 0) || (!(bt130.2 == 0))) = true then ((impl_vec_dot.f bt130.1 bt130.2 (wrap64 (a1_2 - a0_2)) (wrap64 (a1_3 - a0_3))).bind fun t133 => (some (decide (t133 < 0)))) else (some false))
set_option maxHeartbeats 8000000 in
set_option maxRecDepth 100000 in
theorem impl_closing.calls (a0_0 : Int) (a0_1 : Int) (a0_2 : Int) (a0_3 : Int) (a0_4 : Int) (a0_5 : Int) (a1_0 : Int) (a1_1 : Int) (a1_2 : Int) (a1_3 : Int) (a1_4 : Int) (a1_5 : Int) (r : Bool) (w : World) (h : impl_closing.f a0_0 a0_1 a0_2 a0_3 a0_4 a0_5 a1_0 a1_1 a1_2 a1_3 a1_4 a1_5 = some r) :
  Calls Try.prog 63 #[.agg #[.int .i64 a0_0, .int .i64 a0_1, .int .i64 a0_2, .int .i64 a0_3, .int .i64 a0_4, .int .i64 a0_5], .agg #[.int .i64 a1_0, .int .i64 a1_1, .int .i64 a1_2, .int .i64 a1_3, .int .i64 a1_4, .int .i64 a1_5]] w fun e w' => e = .returned (.bool r) ∧ Below w.heap.size w w' := by
 have hu25 := Try.underlying25
 have hu89 := Try.underlying89
 have HB := Aside0.mk (Below.refl w.heap.size w)
 have H : ((impl_bearing.f a1_0 a1_1 a1_2 a1_3 a1_4 a1_5 a0_0 a0_1 a0_2 a0_3 a0_4 a0_5).bind fun bt130 => (if (!(bt130.1 == 0) || (!(bt130.2 == 0))) = true then ((impl_vec_dot.f bt130.1 bt130.2 (wrap64 (a1_2 - a0_2)) (wrap64 (a1_3 - a0_3))).bind fun t133 => (some (decide (t133 < 0)))) else (some false))) = some r := h
 clear h
 replace H := Option.bind_eq_some_iff.mp H
 obtain ⟨⟨t130, t131⟩, A30, H⟩ := H
 replace H : (if (!(t130 == 0) || (!(t131 == 0))) = true then ((impl_vec_dot.f t130 t131 (wrap64 (a1_2 - a0_2)) (wrap64 (a1_3 - a0_3))).bind fun t133 => (some (decide (t133 < 0)))) else (some false)) = some r := H
 have A3 := Aside0.mk A30
 clear A30
 by_cases c4 : (!(t130 == 0) || (!(t131 == 0))) = true
 ·rw [if_pos c4] at H
  have c4b0 : (!(t130 == 0) || (!(t131 == 0))) = true := c4
  clear c4
  replace H := Option.bind_eq_some_iff.mp H
  obtain ⟨t133, A50, H⟩ := H
  replace H : (some (decide (t133 < 0))) = some r := H
  have A5 := Aside0.mk A50
  clear A50
  obtain rfl := Option.some.inj H
  go_enter Try.func63, Try.ntmps63
  go_wp2_with (first | ((with_reducible refine gate_dst (N := 2) rfl ?_); refine box_event ?hg (N := 2) ?hd (cs := #[.int .i64 a0_0, .int .i64 a0_1, .int .i64 a0_2, .int .i64 a0_3, .int .i64 a0_4, .int .i64 a0_5]) (t := 25) ?hr ?_; (case hd => rfl); (case hg => rfl); (case hr => first | (go_simp; done) | (go_simp; rfl)); intro gb128 hg w6 hbox hb; replace BK128 := Aside0.mk (hbox); replace GW128 := Aside0.mk ((by rw [hg]; exact (below_size (ub HB)) : w.heap.size ≤ gb128)); replace GE128 := Aside0.mk ((by rw [hg]; exact (below_size (ub HB)) : w.heap.size ≤ gb128)); replace HB := Aside0.mk (below_step (ub HB) hb); clear hb hbox hg) | ((with_reducible refine gate_dst (N := 3) rfl ?_); refine box_event ?hg (N := 3) ?hd (cs := #[.int .i64 a1_0, .int .i64 a1_1, .int .i64 a1_2, .int .i64 a1_3, .int .i64 a1_4, .int .i64 a1_5]) (t := 25) ?hr ?_; (case hd => rfl); (case hg => rfl); (case hr => first | (go_simp; done) | (go_simp; rfl)); intro gb129 hg w7 hbox hb; replace BK129 := Aside0.mk (hbox); replace GW129 := Aside0.mk ((by rw [hg]; exact (below_size (by repeat (first | (with_reducible first | exact HB.out | apply below_alloc | apply pw_below_drewN | apply below_drew1 | refine below_set ?_ GE128.out) | exact HB.out))) : w.heap.size ≤ gb129)); replace GE129 := Aside0.mk ((by rw [hg]; exact (below_size (by repeat (first | (with_reducible first | exact HB.out | apply below_alloc | apply pw_below_drewN | apply below_drew1 | refine below_set ?_ GE128.out) | exact HB.out))) : w.heap.size ≤ gb129)); replace HB := Aside0.mk (below_step (by repeat (first | (with_reducible first | exact HB.out | apply below_alloc | apply pw_below_drewN | apply below_drew1 | refine below_set ?_ GE128.out) | exact HB.out)) hb); replace NB128_129 := Aside0.mk ((by rw [hg]; exact Nat.ne_of_lt (blk_lt (g := gb128) (up BK128)) : gb128 ≠ gb129)); replace NB129_128 := Aside0.mk ((by rw [hg]; exact Nat.ne_of_gt (blk_lt (g := gb128) (up BK128)) : gb129 ≠ gb128)); replace BK128 := Aside0.mk (blk_below (g := gb128) (up BK128) hb); clear hb hbox hg; have hnb8 := NB129_128.out; have hnc8 := NB128_129.out; obtain ⟨hcz9_0, hcz9_1, hcz9_2, hcz9_3, hcz9_4, hcz9_5, hfz9_0, hfz9_1, hfz9_2, hfz9_3, hfz9_4, hfz9_5⟩ := six BK129; obtain ⟨hcz10_0, hcz10_1, hcz10_2, hcz10_3, hcz10_4, hcz10_5, hfz10_0, hfz10_1, hfz10_2, hfz10_3, hfz10_4, hfz10_5⟩ := six BK128) | ((with_reducible refine gate_callee (f := 70) rfl ?_); refine goesL_ (some 8) rfl rfl Try.func70 (by kernel_rfl) rfl #[.agg #[.int .i64 a1_0, .int .i64 a1_1, .int .i64 a1_2, .int .i64 a1_3, .int .i64 a1_4, .int .i64 a1_5], .agg #[.int .i64 a0_0, .int .i64 a0_1, .int .i64 a0_2, .int .i64 a0_3, .int .i64 a0_4, .int .i64 a0_5]] rfl (by (try simp only [List.map_toArray, List.map_cons, List.map_nil]); first | done | rfl) ?_; (with_reducible refine (impl_bearing.calls a1_0 a1_1 a1_2 a1_3 a1_4 a1_5 a0_0 a0_1 a0_2 a0_3 a0_4 a0_5 t130 t131 _ A3.out).mono ?_); rintro e w11 ⟨rfl, hb⟩; refine ⟨_, rfl, ?_⟩; replace BK128 := Aside0.mk (blk_below (g := gb128) (up BK128) hb); replace BK129 := Aside0.mk (blk_below (g := gb129) (up BK129) hb); replace HB := Aside0.mk (below_step (by repeat (first | (with_reducible first | exact HB.out | apply below_alloc | apply pw_below_drewN | apply below_drew1 | refine below_set ?_ GE128.out | refine below_set ?_ GE129.out) | exact HB.out)) hb); (try clear hb); (try clear hb2); (try clear hk); (try clear hi)) | ((with_reducible refine gate_dst (N := 5) rfl ?_); refine box_event ?hg (N := 5) ?hd (cs := #[.int .i64 0, .int .i64 0]) (t := 89) ?hr ?_; (case hd => rfl); (case hg => rfl); (case hr => first | (go_simp; done) | (go_simp; rfl)); intro gb132 hg w12 hbox hb; replace BK132 := Aside0.mk (hbox); replace GW132 := Aside0.mk ((by rw [hg]; exact (below_size (by repeat (first | (with_reducible first | exact HB.out | apply below_alloc | apply pw_below_drewN | apply below_drew1 | refine below_set ?_ GE128.out | refine below_set ?_ GE129.out) | exact HB.out))) : w.heap.size ≤ gb132)); replace GE132 := Aside0.mk ((by rw [hg]; exact (below_size (by repeat (first | (with_reducible first | exact HB.out | apply below_alloc | apply pw_below_drewN | apply below_drew1 | refine below_set ?_ GE128.out | refine below_set ?_ GE129.out) | exact HB.out))) : w.heap.size ≤ gb132)); replace HB := Aside0.mk (below_step (by repeat (first | (with_reducible first | exact HB.out | apply below_alloc | apply pw_below_drewN | apply below_drew1 | refine below_set ?_ GE128.out | refine below_set ?_ GE129.out) | exact HB.out)) hb); replace NB128_132 := Aside0.mk ((by rw [hg]; exact Nat.ne_of_lt (blk_lt (g := gb128) (up BK128)) : gb128 ≠ gb132)); replace NB132_128 := Aside0.mk ((by rw [hg]; exact Nat.ne_of_gt (blk_lt (g := gb128) (up BK128)) : gb132 ≠ gb128)); replace BK128 := Aside0.mk (blk_below (g := gb128) (up BK128) hb); replace NB129_132 := Aside0.mk ((by rw [hg]; exact Nat.ne_of_lt (blk_lt (g := gb129) (up BK129)) : gb129 ≠ gb132)); replace NB132_129 := Aside0.mk ((by rw [hg]; exact Nat.ne_of_gt (blk_lt (g := gb129) (up BK129)) : gb132 ≠ gb129)); replace BK129 := Aside0.mk (blk_below (g := gb129) (up BK129) hb); clear hb hbox hg; have hnb13 := NB132_128.out; have hnc13 := NB128_132.out; have hnb14 := NB132_129.out; have hnc14 := NB129_132.out; obtain ⟨hcz15_0, hcz15_1, hfz15_0, hfz15_1⟩ := two BK132; obtain ⟨hcz16_0, hcz16_1, hcz16_2, hcz16_3, hcz16_4, hcz16_5, hfz16_0, hfz16_1, hfz16_2, hfz16_3, hfz16_4, hfz16_5⟩ := six BK129; obtain ⟨hcz17_0, hcz17_1, hcz17_2, hcz17_3, hcz17_4, hcz17_5, hfz17_0, hfz17_1, hfz17_2, hfz17_3, hfz17_4, hfz17_5⟩ := six BK128) | (go_at_call 72; (with_reducible refine (impl_vec_dot.calls t130 t131 (wrap64 (a1_2 - a0_2)) (wrap64 (a1_3 - a0_3)) t133 _ A5.out).mono ?_); rintro e w18 ⟨rfl, hb⟩; replace BK128 := Aside0.mk (blk_below (g := gb128) (o := .cells #[.int .i64 a0_0, .int .i64 a0_1, .int .i64 a0_2, .int .i64 a0_3, .int .i64 a0_4, .int .i64 a0_5] 25 (0, 0)) (by (with_reducible repeat (first | refine blk_drewN ?_ _ | refine blk_drew ?_ | refine blk_alloc ?_ _)); refine blk_far ?_ NB128_132.out _; (with_reducible repeat (first | refine blk_drewN ?_ _ | refine blk_drew ?_ | refine blk_alloc ?_ _)); refine blk_far ?_ NB128_132.out _; (with_reducible repeat (first | refine blk_drewN ?_ _ | refine blk_drew ?_ | refine blk_alloc ?_ _)); exact BK128.out) hb); replace BK129 := Aside0.mk (blk_below (g := gb129) (o := .cells #[.int .i64 a1_0, .int .i64 a1_1, .int .i64 a1_2, .int .i64 a1_3, .int .i64 a1_4, .int .i64 a1_5] 25 (0, 0)) (by (with_reducible repeat (first | refine blk_drewN ?_ _ | refine blk_drew ?_ | refine blk_alloc ?_ _)); refine blk_far ?_ NB129_132.out _; (with_reducible repeat (first | refine blk_drewN ?_ _ | refine blk_drew ?_ | refine blk_alloc ?_ _)); refine blk_far ?_ NB129_132.out _; (with_reducible repeat (first | refine blk_drewN ?_ _ | refine blk_drew ?_ | refine blk_alloc ?_ _)); exact BK129.out) hb); replace BK132 := Aside0.mk (blk_below (g := gb132) (o := .cells #[.int .i64 t130, .int .i64 t131] 89 (0, 0)) (by (with_reducible repeat (first | refine blk_drewN ?_ _ | refine blk_drew ?_ | refine blk_alloc ?_ _)); refine blk_put (cs := #[.int .i64 t130, .int .i64 0]) ?_ 1 _ rfl; (with_reducible repeat (first | refine blk_drewN ?_ _ | refine blk_drew ?_ | refine blk_alloc ?_ _)); refine blk_put (cs := #[.int .i64 0, .int .i64 0]) ?_ 0 _ rfl; (with_reducible repeat (first | refine blk_drewN ?_ _ | refine blk_drew ?_ | refine blk_alloc ?_ _)); exact BK132.out) hb); replace HB := Aside0.mk (below_step (by repeat (first | (with_reducible first | exact HB.out | apply below_alloc | apply pw_below_drewN | apply below_drew1 | refine below_set ?_ GE128.out | refine below_set ?_ GE129.out | refine below_set ?_ GE132.out) | exact HB.out)) hb); (try clear hb); (try clear hb2); (try clear hk); (try clear hi)))
  go_ret
  exact ⟨by first | rfl | (simp [errW_none, errW_some] <;> rfl) | (simp [*, errW_none, errW_some] <;> rfl), by repeat (first | (with_reducible first | exact HB.out | apply below_alloc | apply pw_below_drewN | apply below_drew1 | refine below_set ?_ GE128.out | refine below_set ?_ GE129.out | refine below_set ?_ GE132.out) | exact HB.out)⟩
 ·rw [if_neg c4] at H
  have c4b0 : (!(t130 == 0) || (!(t131 == 0))) = false := by simpa using c4
  clear c4
  obtain rfl := Option.some.inj H
  go_enter Try.func63, Try.ntmps63
  go_wp2_with (first | ((with_reducible refine gate_dst (N := 2) rfl ?_); refine box_event ?hg (N := 2) ?hd (cs := #[.int .i64 a0_0, .int .i64 a0_1, .int .i64 a0_2, .int .i64 a0_3, .int .i64 a0_4, .int .i64 a0_5]) (t := 25) ?hr ?_; (case hd => rfl); (case hg => rfl); (case hr => first | (go_simp; done) | (go_simp; rfl)); intro gb128 hg w19 hbox hb; replace BK128 := Aside0.mk (hbox); replace GW128 := Aside0.mk ((by rw [hg]; exact (below_size (ub HB)) : w.heap.size ≤ gb128)); replace GE128 := Aside0.mk ((by rw [hg]; exact (below_size (ub HB)) : w.heap.size ≤ gb128)); replace HB := Aside0.mk (below_step (ub HB) hb); clear hb hbox hg) | ((with_reducible refine gate_dst (N := 3) rfl ?_); refine box_event ?hg (N := 3) ?hd (cs := #[.int .i64 a1_0, .int .i64 a1_1, .int .i64 a1_2, .int .i64 a1_3, .int .i64 a1_4, .int .i64 a1_5]) (t := 25) ?hr ?_; (case hd => rfl); (case hg => rfl); (case hr => first | (go_simp; done) | (go_simp; rfl)); intro gb129 hg w20 hbox hb; replace BK129 := Aside0.mk (hbox); replace GW129 := Aside0.mk ((by rw [hg]; exact (below_size (by repeat (first | (with_reducible first | exact HB.out | apply below_alloc | apply pw_below_drewN | apply below_drew1 | refine below_set ?_ GE128.out) | exact HB.out))) : w.heap.size ≤ gb129)); replace GE129 := Aside0.mk ((by rw [hg]; exact (below_size (by repeat (first | (with_reducible first | exact HB.out | apply below_alloc | apply pw_below_drewN | apply below_drew1 | refine below_set ?_ GE128.out) | exact HB.out))) : w.heap.size ≤ gb129)); replace HB := Aside0.mk (below_step (by repeat (first | (with_reducible first | exact HB.out | apply below_alloc | apply pw_below_drewN | apply below_drew1 | refine below_set ?_ GE128.out) | exact HB.out)) hb); replace NB128_129 := Aside0.mk ((by rw [hg]; exact Nat.ne_of_lt (blk_lt (g := gb128) (up BK128)) : gb128 ≠ gb129)); replace NB129_128 := Aside0.mk ((by rw [hg]; exact Nat.ne_of_gt (blk_lt (g := gb128) (up BK128)) : gb129 ≠ gb128)); replace BK128 := Aside0.mk (blk_below (g := gb128) (up BK128) hb); clear hb hbox hg; have hnb21 := NB129_128.out; have hnc21 := NB128_129.out; obtain ⟨hcz22_0, hcz22_1, hcz22_2, hcz22_3, hcz22_4, hcz22_5, hfz22_0, hfz22_1, hfz22_2, hfz22_3, hfz22_4, hfz22_5⟩ := six BK129; obtain ⟨hcz23_0, hcz23_1, hcz23_2, hcz23_3, hcz23_4, hcz23_5, hfz23_0, hfz23_1, hfz23_2, hfz23_3, hfz23_4, hfz23_5⟩ := six BK128) | ((with_reducible refine gate_callee (f := 70) rfl ?_); refine goesL_ (some 8) rfl rfl Try.func70 (by kernel_rfl) rfl #[.agg #[.int .i64 a1_0, .int .i64 a1_1, .int .i64 a1_2, .int .i64 a1_3, .int .i64 a1_4, .int .i64 a1_5], .agg #[.int .i64 a0_0, .int .i64 a0_1, .int .i64 a0_2, .int .i64 a0_3, .int .i64 a0_4, .int .i64 a0_5]] rfl (by (try simp only [List.map_toArray, List.map_cons, List.map_nil]); first | done | rfl) ?_; (with_reducible refine (impl_bearing.calls a1_0 a1_1 a1_2 a1_3 a1_4 a1_5 a0_0 a0_1 a0_2 a0_3 a0_4 a0_5 t130 t131 _ A3.out).mono ?_); rintro e w24 ⟨rfl, hb⟩; refine ⟨_, rfl, ?_⟩; replace BK128 := Aside0.mk (blk_below (g := gb128) (up BK128) hb); replace BK129 := Aside0.mk (blk_below (g := gb129) (up BK129) hb); replace HB := Aside0.mk (below_step (by repeat (first | (with_reducible first | exact HB.out | apply below_alloc | apply pw_below_drewN | apply below_drew1 | refine below_set ?_ GE128.out | refine below_set ?_ GE129.out) | exact HB.out)) hb); (try clear hb); (try clear hb2); (try clear hk); (try clear hi)) | ((with_reducible refine gate_dst (N := 5) rfl ?_); refine box_event ?hg (N := 5) ?hd (cs := #[.int .i64 0, .int .i64 0]) (t := 89) ?hr ?_; (case hd => rfl); (case hg => rfl); (case hr => first | (go_simp; done) | (go_simp; rfl)); intro gb132 hg w25 hbox hb; replace BK132 := Aside0.mk (hbox); replace GW132 := Aside0.mk ((by rw [hg]; exact (below_size (by repeat (first | (with_reducible first | exact HB.out | apply below_alloc | apply pw_below_drewN | apply below_drew1 | refine below_set ?_ GE128.out | refine below_set ?_ GE129.out) | exact HB.out))) : w.heap.size ≤ gb132)); replace GE132 := Aside0.mk ((by rw [hg]; exact (below_size (by repeat (first | (with_reducible first | exact HB.out | apply below_alloc | apply pw_below_drewN | apply below_drew1 | refine below_set ?_ GE128.out | refine below_set ?_ GE129.out) | exact HB.out))) : w.heap.size ≤ gb132)); replace HB := Aside0.mk (below_step (by repeat (first | (with_reducible first | exact HB.out | apply below_alloc | apply pw_below_drewN | apply below_drew1 | refine below_set ?_ GE128.out | refine below_set ?_ GE129.out) | exact HB.out)) hb); replace NB128_132 := Aside0.mk ((by rw [hg]; exact Nat.ne_of_lt (blk_lt (g := gb128) (up BK128)) : gb128 ≠ gb132)); replace NB132_128 := Aside0.mk ((by rw [hg]; exact Nat.ne_of_gt (blk_lt (g := gb128) (up BK128)) : gb132 ≠ gb128)); replace BK128 := Aside0.mk (blk_below (g := gb128) (up BK128) hb); replace NB129_132 := Aside0.mk ((by rw [hg]; exact Nat.ne_of_lt (blk_lt (g := gb129) (up BK129)) : gb129 ≠ gb132)); replace NB132_129 := Aside0.mk ((by rw [hg]; exact Nat.ne_of_gt (blk_lt (g := gb129) (up BK129)) : gb132 ≠ gb129)); replace BK129 := Aside0.mk (blk_below (g := gb129) (up BK129) hb); clear hb hbox hg; have hnb26 := NB132_128.out; have hnc26 := NB128_132.out; have hnb27 := NB132_129.out; have hnc27 := NB129_132.out; obtain ⟨hcz28_0, hcz28_1, hfz28_0, hfz28_1⟩ := two BK132))
  go_ret
  exact ⟨by first | rfl | (simp [errW_none, errW_some] <;> rfl) | (simp [*, errW_none, errW_some] <;> rfl), by repeat (first | (with_reducible first | exact HB.out | apply below_alloc | apply pw_below_drewN | apply below_drew1 | refine below_set ?_ GE128.out | refine below_set ?_ GE129.out | refine below_set ?_ GE132.out) | exact HB.out)⟩

end Go.Proofs.Ytfbokdbaondjdaa.PV1
-- printed for this claim out of the translation
namespace Go.Proofs.Ytfbokdbaondjdaa.PV1
open Go.RowKit Go.Proofs.YtfbokdbaondjdaaW.PrintWords Go.Proofs.YtfbokdbaondjdaaW.PrintLast Go.Proofs.YtfbokdbaondjdaaW.PrintMore Go.Proofs.Ytfbokdbaondjdaa.Cz
attribute [local go_sem] max2_int min2_int max_two min_two max_three min_three max_four min_four
set_option linter.unusedVariables false
set_option linter.unusedSimpArgs false

/-! ### impl_right: function 64 -/
def impl_right.f (a0_0 : Int) (a0_1 : Int) (a0_2 : Int) (a0_3 : Int) (a0_4 : Int) (a0_5 : Int) (a1_0 : Int) (a1_1 : Int) (a1_2 : Int) (a1_3 : Int) (a1_4 : Int) (a1_5 : Int) : Option (Bool) := (impl_Ship_way.f a0_0 a0_1 a0_2 a0_3 a0_4 a0_5).bind fun bt136 => ((impl_bearing.f a1_0 a1_1 a1_2 a1_3 a1_4 a1_5 a0_0 a0_1 a0_2 a0_3 a0_4 a0_5).bind fun bt138 => ((impl_vec_cross.f bt136.1 bt136.2 bt138.1 bt138.2).bind fun t140 => (some (decide (t140 < 0)))))
def impl_right.T1 : Bool × List (List Nat × List Nat) := (true, [([], []), ([0], [0]), ([], []), ([], []), ([2, 3, 1], [2, 3]), ([1, 4, 4], [1, 4]), ([5], [5]), ([6, 5, 0, 1, 2, 3, 4, 5, 6], [6])])
def impl_right.B1 : List Nat := [0, 1, 0, 0, 15, 31, 63, 127]
theorem impl_right.tab1 : rtab .any (opsOf Try.f64 1) = impl_right.T1 := by kernel_rfl
theorem impl_right.bits1 : waitsOk impl_right.T1.2 impl_right.B1 = true := by kernel_rfl
set_option maxHeartbeats 8000000 in
set_option maxRecDepth 100000 in
theorem impl_right.calls (a0_0 : Int) (a0_1 : Int) (a0_2 : Int) (a0_3 : Int) (a0_4 : Int) (a0_5 : Int) (a1_0 : Int) (a1_1 : Int) (a1_2 : Int) (a1_3 : Int) (a1_4 : Int) (a1_5 : Int) (r : Bool) (w : World) (h : impl_right.f a0_0 a0_1 a0_2 a0_3 a0_4 a0_5 a1_0 a1_1 a1_2 a1_3 a1_4 a1_5 = some r) :
  Calls Try.prog 64 #[.agg #[.int .i64 a0_0, .int .i64 a0_1, .int .i64 a0_2, .int .i64 a0_3, .int .i64 a0_4, .int .i64 a0_5], .agg #[.int .i64 a1_0, .int .i64 a1_1, .int .i64 a1_2, .int .i64 a1_3, .int .i64 a1_4, .int .i64 a1_5]] w fun e w' => e = .returned (.bool r) ∧ Below w.heap.size w w' := by
 have hu25 := Try.underlying25
 have HB := Aside0.mk (Below.refl w.heap.size w)
 have H : ((impl_Ship_way.f a0_0 a0_1 a0_2 a0_3 a0_4 a0_5).bind fun bt136 => ((impl_bearing.f a1_0 a1_1 a1_2 a1_3 a1_4 a1_5 a0_0 a0_1 a0_2 a0_3 a0_4 a0_5).bind fun bt138 => ((impl_vec_cross.f bt136.1 bt136.2 bt138.1 bt138.2).bind fun t140 => (some (decide (t140 < 0)))))) = some r := h
 clear h
 replace H := Option.bind_eq_some_iff.mp H
 obtain ⟨⟨t136, t137⟩, A30, H⟩ := H
 replace H : ((impl_bearing.f a1_0 a1_1 a1_2 a1_3 a1_4 a1_5 a0_0 a0_1 a0_2 a0_3 a0_4 a0_5).bind fun bt138 => ((impl_vec_cross.f t136 t137 bt138.1 bt138.2).bind fun t140 => (some (decide (t140 < 0))))) = some r := H
 have A3 := Aside0.mk A30
 clear A30
 replace H := Option.bind_eq_some_iff.mp H
 obtain ⟨⟨t138, t139⟩, A40, H⟩ := H
 replace H : ((impl_vec_cross.f t136 t137 t138 t139).bind fun t140 => (some (decide (t140 < 0)))) = some r := H
 have A4 := Aside0.mk A40
 clear A40
 replace H := Option.bind_eq_some_iff.mp H
 obtain ⟨t140, A50, H⟩ := H
 replace H : (some (decide (t140 < 0))) = some r := H
 have A5 := Aside0.mk A50
 clear A50
 obtain rfl := Option.some.inj H
 go_enter Try.func64, Try.ntmps64
 try go_wp2_with (first | ((with_reducible refine gate_dst (N := 2) rfl ?_); refine box_event ?hg (N := 2) ?hd (cs := #[.int .i64 a0_0, .int .i64 a0_1, .int .i64 a0_2, .int .i64 a0_3, .int .i64 a0_4, .int .i64 a0_5]) (t := 25) ?hr ?_; (case hd => rfl); (case hg => rfl); (case hr => first | (go_simp; done) | (go_simp; rfl)); intro gb134 hg w6 hbox hb; replace BK134 := Aside0.mk (hbox); replace GW134 := Aside0.mk ((by rw [hg]; exact (below_size (ub HB)) : w.heap.size ≤ gb134)); replace GE134 := Aside0.mk ((by rw [hg]; exact (below_size (ub HB)) : w.heap.size ≤ gb134)); replace HB := Aside0.mk (below_step (ub HB) hb); clear hb hbox hg) | ((with_reducible refine gate_dst (N := 3) rfl ?_); refine box_event ?hg (N := 3) ?hd (cs := #[.int .i64 a1_0, .int .i64 a1_1, .int .i64 a1_2, .int .i64 a1_3, .int .i64 a1_4, .int .i64 a1_5]) (t := 25) ?hr ?_; (case hd => rfl); (case hg => rfl); (case hr => first | (go_simp; done) | (go_simp; rfl)); intro gb135 hg w7 hbox hb; replace BK135 := Aside0.mk (hbox); replace GW135 := Aside0.mk ((by rw [hg]; exact (below_size (by repeat (first | (with_reducible first | exact HB.out | apply below_alloc | apply pw_below_drewN | apply below_drew1 | refine below_set ?_ GE134.out) | exact HB.out))) : w.heap.size ≤ gb135)); replace GE135 := Aside0.mk ((by rw [hg]; exact (below_size (by repeat (first | (with_reducible first | exact HB.out | apply below_alloc | apply pw_below_drewN | apply below_drew1 | refine below_set ?_ GE134.out) | exact HB.out))) : w.heap.size ≤ gb135)); replace HB := Aside0.mk (below_step (by repeat (first | (with_reducible first | exact HB.out | apply below_alloc | apply pw_below_drewN | apply below_drew1 | refine below_set ?_ GE134.out) | exact HB.out)) hb); replace NB134_135 := Aside0.mk ((by rw [hg]; exact Nat.ne_of_lt (blk_lt (g := gb134) (up BK134)) : gb134 ≠ gb135)); replace NB135_134 := Aside0.mk ((by rw [hg]; exact Nat.ne_of_gt (blk_lt (g := gb134) (up BK134)) : gb135 ≠ gb134)); replace BK134 := Aside0.mk (blk_below (g := gb134) (up BK134) hb); clear hb hbox hg))
 replace BK134 := Aside0.mk (blk_drew BK134.out)
 replace BK135 := Aside0.mk (blk_drew BK135.out)
 replace HB := Aside0.mk (below_drew1 HB.out)
 refine start_ (n := 8) (S := fun w' => w'.cell? ⟨gb134, 0, none⟩ = some (.int .i64 a0_0) ∧ w'.cell? ⟨gb134, 1, none⟩ = some (.int .i64 a0_1) ∧ w'.cell? ⟨gb134, 2, none⟩ = some (.int .i64 a0_2) ∧ w'.cell? ⟨gb134, 3, none⟩ = some (.int .i64 a0_3) ∧ w'.cell? ⟨gb134, 4, none⟩ = some (.int .i64 a0_4) ∧ w'.cell? ⟨gb134, 5, none⟩ = some (.int .i64 a0_5) ∧ w'.cell? ⟨gb135, 0, none⟩ = some (.int .i64 a1_0) ∧ w'.cell? ⟨gb135, 1, none⟩ = some (.int .i64 a1_1) ∧ w'.cell? ⟨gb135, 2, none⟩ = some (.int .i64 a1_2) ∧ w'.cell? ⟨gb135, 3, none⟩ = some (.int .i64 a1_3) ∧ w'.cell? ⟨gb135, 4, none⟩ = some (.int .i64 a1_4) ∧ w'.cell? ⟨gb135, 5, none⟩ = some (.int .i64 a1_5)) (ds := []) #[false, false, false, false, false, false, false, false] (by kernel_rfl) rfl rfl ⟨(blk_cell BK134.out 0).trans rfl, (blk_cell BK134.out 1).trans rfl, (blk_cell BK134.out 2).trans rfl, (blk_cell BK134.out 3).trans rfl, (blk_cell BK134.out 4).trans rfl, (blk_cell BK134.out 5).trans rfl, (blk_cell BK135.out 0).trans rfl, (blk_cell BK135.out 1).trans rfl, (blk_cell BK135.out 2).trans rfl, (blk_cell BK135.out 3).trans rfl, (blk_cell BK135.out 4).trans rfl, (blk_cell BK135.out 5).trans rfl⟩ (fun hHeld => ?_); refine with_tabW impl_right.tab1 impl_right.bits1 (fun HT_ HW_ => ?_)
 generalize w7.drew = w8 at BK134 BK135 HB hHeld ⊢
 refine take_ (i := 0) (N := some 5) (v := ?_) (a' := ?_) (bz 8 1) rfl rfl (take_ofW HT_.out HW_.out (by kernel_rfl)) (fun _ _ _ h => h) (Or.inl ⟨by rfl, ?_⟩) hHeld ?_ ?_
 rotate_left
 ·rintro w' ⟨s0, s1, s2, s3, s4, s5, s6, s7, s8, s9, s10, s11⟩
  go_simp
  with_reducible rfl
 rotate_left
 ·simp only [Act.put, y1, y2, y3, i64_w, i32_w]
  rfl
 refine take_ (i := 2) (N := some 7) (v := ?_) (a' := ?_) (bz 8 5) rfl rfl (take_ofW HT_.out HW_.out (by kernel_rfl)) (fun _ _ _ h => h) (Or.inl ⟨by rfl, ?_⟩) hHeld ?_ ?_
 rotate_left
 ·rintro w' ⟨s0, s1, s2, s3, s4, s5, s6, s7, s8, s9, s10, s11⟩
  go_simp
  with_reducible rfl
 rotate_left
 ·simp only [Act.put, y1, y2, y3, i64_w, i32_w]
  rfl
 refine take_ (i := 3) (N := some 8) (v := ?_) (a' := ?_) (bz 8 13) rfl rfl (take_ofW HT_.out HW_.out (by kernel_rfl)) (fun _ _ _ h => h) (Or.inl ⟨by rfl, ?_⟩) hHeld ?_ ?_
 rotate_left
 ·rintro w' ⟨s0, s1, s2, s3, s4, s5, s6, s7, s8, s9, s10, s11⟩
  go_simp
  with_reducible rfl
 rotate_left
 ·simp only [Act.put, y1, y2, y3, i64_w, i32_w]
  rfl
 refine one_ (i := 1) (N := some 6) (bz 8 15) rfl rfl (one_of HT_.out (by kernel_rfl)) (by decide) (fun K hK => ?_)
 refine goes_ Try.func71 (by kernel_rfl) rfl #[.agg #[.int .i64 a0_0, .int .i64 a0_1, .int .i64 a0_2, .int .i64 a0_3, .int .i64 a0_4, .int .i64 a0_5]] (by rfl) rfl rfl (by (try simp only [List.map_toArray, List.map_cons, List.map_nil]); first | done | rfl) ?_
 with_reducible refine (impl_Ship_way.calls a0_0 a0_1 a0_2 a0_3 a0_4 a0_5 t136 t137 _ A3.out).mono ?_
 rintro e w9 ⟨rfl, hb⟩
 refine ⟨_, rfl, ?_⟩
 replace BK134 := Aside0.mk (blk_below (g := gb134) (up BK134) hb)
 replace BK135 := Aside0.mk (blk_below (g := gb135) (up BK135) hb)
 replace HB := Aside0.mk (below_step (by repeat (first | (with_reducible first | exact HB.out | apply below_alloc | apply pw_below_drewN | apply below_drew1 | refine below_set ?_ GE134.out | refine below_set ?_ GE135.out) | exact HB.out)) hb)
 (try clear hb)
 (try clear hb2)
 (try clear hk)
 (try clear hi)
 refine hK.out _ _ ⟨(blk_cell BK134.out 0).trans rfl, (blk_cell BK134.out 1).trans rfl, (blk_cell BK134.out 2).trans rfl, (blk_cell BK134.out 3).trans rfl, (blk_cell BK134.out 4).trans rfl, (blk_cell BK134.out 5).trans rfl, (blk_cell BK135.out 0).trans rfl, (blk_cell BK135.out 1).trans rfl, (blk_cell BK135.out 2).trans rfl, (blk_cell BK135.out 3).trans rfl, (blk_cell BK135.out 4).trans rfl, (blk_cell BK135.out 5).trans rfl⟩ (fun hHeld => ?_)
 clear hK K
 refine norm_ (a' := ?_) ?_ ?_
 rotate_left
 ·show Act.put _ (some 6) _ = _
  simp only [Act.put, y1, y2, y3, i64_w, i32_w]
  rfl
 refine one_ (i := 4) (N := some 9) (bz 8 31) rfl rfl (one_of HT_.out (by kernel_rfl)) (by decide) (fun K hK => ?_)
 refine goes_ Try.func70 (by kernel_rfl) rfl #[.agg #[.int .i64 a1_0, .int .i64 a1_1, .int .i64 a1_2, .int .i64 a1_3, .int .i64 a1_4, .int .i64 a1_5], .agg #[.int .i64 a0_0, .int .i64 a0_1, .int .i64 a0_2, .int .i64 a0_3, .int .i64 a0_4, .int .i64 a0_5]] (by rfl) rfl rfl (by (try simp only [List.map_toArray, List.map_cons, List.map_nil]); first | done | rfl) ?_
 with_reducible refine (impl_bearing.calls a1_0 a1_1 a1_2 a1_3 a1_4 a1_5 a0_0 a0_1 a0_2 a0_3 a0_4 a0_5 t138 t139 _ A4.out).mono ?_
 rintro e w10 ⟨rfl, hb⟩
 refine ⟨_, rfl, ?_⟩
 replace BK134 := Aside0.mk (blk_below (g := gb134) (up BK134) hb)
 replace BK135 := Aside0.mk (blk_below (g := gb135) (up BK135) hb)
 replace HB := Aside0.mk (below_step (by repeat (first | (with_reducible first | exact HB.out | apply below_alloc | apply pw_below_drewN | apply below_drew1 | refine below_set ?_ GE134.out | refine below_set ?_ GE135.out) | exact HB.out)) hb)
 (try clear hb)
 (try clear hb2)
 (try clear hk)
 (try clear hi)
 refine hK.out _ _ ⟨(blk_cell BK134.out 0).trans rfl, (blk_cell BK134.out 1).trans rfl, (blk_cell BK134.out 2).trans rfl, (blk_cell BK134.out 3).trans rfl, (blk_cell BK134.out 4).trans rfl, (blk_cell BK134.out 5).trans rfl, (blk_cell BK135.out 0).trans rfl, (blk_cell BK135.out 1).trans rfl, (blk_cell BK135.out 2).trans rfl, (blk_cell BK135.out 3).trans rfl, (blk_cell BK135.out 4).trans rfl, (blk_cell BK135.out 5).trans rfl⟩ (fun hHeld => ?_)
 clear hK K
 refine norm_ (a' := ?_) ?_ ?_
 rotate_left
 ·show Act.put _ (some 9) _ = _
  simp only [Act.put, y1, y2, y3, i64_w, i32_w]
  rfl
 refine one_ (i := 5) (N := some 10) (bz 8 63) rfl rfl (one_of HT_.out (by kernel_rfl)) (by decide) (fun K hK => ?_)
 refine goes_ Try.func74 (by kernel_rfl) rfl #[.agg #[.int .i64 t136, .int .i64 t137], .agg #[.int .i64 t138, .int .i64 t139]] (by rfl) rfl rfl (by (try simp only [List.map_toArray, List.map_cons, List.map_nil]); first | done | rfl) ?_
 with_reducible refine (impl_vec_cross.calls t136 t137 t138 t139 t140 _ A5.out).mono ?_
 rintro e w11 ⟨rfl, hb⟩
 refine ⟨_, rfl, ?_⟩
 replace BK134 := Aside0.mk (blk_below (g := gb134) (up BK134) hb)
 replace BK135 := Aside0.mk (blk_below (g := gb135) (up BK135) hb)
 replace HB := Aside0.mk (below_step (by repeat (first | (with_reducible first | exact HB.out | apply below_alloc | apply pw_below_drewN | apply below_drew1 | refine below_set ?_ GE134.out | refine below_set ?_ GE135.out) | exact HB.out)) hb)
 (try clear hb)
 (try clear hb2)
 (try clear hk)
 (try clear hi)
 refine hK.out _ _ ⟨(blk_cell BK134.out 0).trans rfl, (blk_cell BK134.out 1).trans rfl, (blk_cell BK134.out 2).trans rfl, (blk_cell BK134.out 3).trans rfl, (blk_cell BK134.out 4).trans rfl, (blk_cell BK134.out 5).trans rfl, (blk_cell BK135.out 0).trans rfl, (blk_cell BK135.out 1).trans rfl, (blk_cell BK135.out 2).trans rfl, (blk_cell BK135.out 3).trans rfl, (blk_cell BK135.out 4).trans rfl, (blk_cell BK135.out 5).trans rfl⟩ (fun hHeld => ?_)
 clear hK K
 refine norm_ (a' := ?_) ?_ ?_
 rotate_left
 ·show Act.put _ (some 10) _ = _
  simp only [Act.put, y1, y2, y3, i64_w, i32_w]
  rfl
 refine pure_ (i := 6) (N := some 11) (v := ?_) (a' := ?_) (bz 8 127) rfl rfl (any_of HT_.out (by kernel_rfl)) (fun _ _ _ h => h) (Or.inl ⟨by rfl, ?_⟩) ?_ ?_
 rotate_left
 ·intro w'
  go_simp
  with_reducible rfl
 rotate_left
 ·simp only [Act.put, y1, y2, y3, i64_w, i32_w]
  rfl
 refine pure_ (i := 7) (N := some 4) (v := ?_) (a' := ?_) (bz 8 255) rfl rfl (any_of HT_.out (by kernel_rfl)) (fun _ _ _ h => h) (Or.inl ⟨by rfl, ?_⟩) ?_ ?_
 rotate_left
 ·intro w'
  go_simp
  with_reducible rfl
 rotate_left
 ·simp only [Act.put, y1, y2, y3, i64_w, i32_w]
  rfl
 refine done_ (done_of HT_.out (by kernel_rfl)) ?_
 try go_wp2
 go_ret
 exact ⟨by first | rfl | (simp [errW_none, errW_some] <;> rfl) | (simp [*, errW_none, errW_some] <;> rfl), by repeat (first | (with_reducible first | exact HB.out | apply below_alloc | apply pw_below_drewN | apply below_drew1 | refine below_set ?_ GE134.out | refine below_set ?_ GE135.out) | exact HB.out)⟩

/-! ### impl_Duty: function 23 -/
def impl_Duty.f (k : Nat) (a0_0 : Int) (a0_1 : Int) (a0_2 : Int) (a0_3 : Int) (a0_4 : Int) (a0_5 : Int) (a1_0 : Int) (a1_1 : Int) (a1_2 : Int) (a1_3 : Int) (a1_4 : Int) (a1_5 : Int) : Option (Int) := (impl_ShipOk.f a0_0 a0_1 a0_2 a0_3 a0_4 a0_5).bind fun s1 => (impl_ShipOk.f a1_0 a1_1 a1_2 a1_3 a1_4 a1_5).bind fun s2 => (impl_closing.f a0_0 a0_1 a0_2 a0_3 a0_4 a0_5 a1_0 a1_1 a1_2 a1_3 a1_4 a1_5).bind fun cl => (impl_Behind.f k a0_0 a0_1 a0_2 a0_3 a0_4 a0_5 a1_0 a1_1 a1_2 a1_3 a1_4 a1_5).bind fun x1 => (impl_Behind.f k a1_0 a1_1 a1_2 a1_3 a1_4 a1_5 a0_0 a0_1 a0_2 a0_3 a0_4 a0_5).bind fun x2 => (impl_HeadOn.f k a0_0 a0_1 a0_2 a0_3 a0_4 a0_5 a1_0 a1_1 a1_2 a1_3 a1_4 a1_5).bind fun ho => (impl_right.f a0_0 a0_1 a0_2 a0_3 a0_4 a0_5 a1_0 a1_1 a1_2 a1_3 a1_4 a1_5).bind fun r1 => (impl_right.f a1_0 a1_1 a1_2 a1_3 a1_4 a1_5 a0_0 a0_1 a0_2 a0_3 a0_4 a0_5).bind fun r2 => some (Du.dutyF s1 s2 cl x1 x2 ho r1 r2 a0_4 a1_4 a0_5 a1_5)
theorem impl_Duty.mono : ∀ a0_0 a0_1 a0_2 a0_3 a0_4 a0_5 a1_0 a1_1 a1_2 a1_3 a1_4 a1_5 k, LeO (impl_Duty.f k a0_0 a0_1 a0_2 a0_3 a0_4 a0_5 a1_0 a1_1 a1_2 a1_3 a1_4 a1_5) (impl_Duty.f (k + 1) a0_0 a0_1 a0_2 a0_3 a0_4 a0_5 a1_0 a1_1 a1_2 a1_3 a1_4 a1_5) := by
 intro a0_0 a0_1 a0_2 a0_3 a0_4 a0_5 a1_0 a1_1 a1_2 a1_3 a1_4 a1_5 k
 exact LeO.bind (LeO.refl _) (fun _ => LeO.bind (LeO.refl _) (fun _ => LeO.bind (LeO.refl _) (fun _ => LeO.bind (impl_Behind.mono a0_0 a0_1 a0_2 a0_3 a0_4 a0_5 a1_0 a1_1 a1_2 a1_3 a1_4 a1_5 k) (fun _ => LeO.bind (impl_Behind.mono a1_0 a1_1 a1_2 a1_3 a1_4 a1_5 a0_0 a0_1 a0_2 a0_3 a0_4 a0_5 k) (fun _ => LeO.bind (impl_HeadOn.mono a0_0 a0_1 a0_2 a0_3 a0_4 a0_5 a1_0 a1_1 a1_2 a1_3 a1_4 a1_5 k) (fun _ => LeO.bind (LeO.refl _) (fun _ => LeO.bind (LeO.refl _) (fun _ => LeO.refl _))))))))
theorem impl_Duty.calls (k : Nat) (a0_0 : Int) (a0_1 : Int) (a0_2 : Int) (a0_3 : Int) (a0_4 : Int) (a0_5 : Int) (a1_0 : Int) (a1_1 : Int) (a1_2 : Int) (a1_3 : Int) (a1_4 : Int) (a1_5 : Int) (r : Int) (w : World) (h : impl_Duty.f k a0_0 a0_1 a0_2 a0_3 a0_4 a0_5 a1_0 a1_1 a1_2 a1_3 a1_4 a1_5 = some r) :
  Calls Try.prog 23 #[.agg #[.int .i64 a0_0, .int .i64 a0_1, .int .i64 a0_2, .int .i64 a0_3, .int .i64 a0_4, .int .i64 a0_5], .agg #[.int .i64 a1_0, .int .i64 a1_1, .int .i64 a1_2, .int .i64 a1_3, .int .i64 a1_4, .int .i64 a1_5]] w fun e w' => e = .returned (.int .i64 r) ∧ Below w.heap.size w w' := by
 unfold impl_Duty.f at h
 obtain ⟨s1, e0, h⟩ := Option.bind_eq_some_iff.mp h
 obtain ⟨s2, e1, h⟩ := Option.bind_eq_some_iff.mp h
 obtain ⟨cl, e2, h⟩ := Option.bind_eq_some_iff.mp h
 obtain ⟨x1, e3, h⟩ := Option.bind_eq_some_iff.mp h
 obtain ⟨x2, e4, h⟩ := Option.bind_eq_some_iff.mp h
 obtain ⟨ho, e5, h⟩ := Option.bind_eq_some_iff.mp h
 obtain ⟨r1, e6, h⟩ := Option.bind_eq_some_iff.mp h
 obtain ⟨r2, e7, h⟩ := Option.bind_eq_some_iff.mp h
 obtain rfl := Option.some.inj h
 exact Du.duty_any a0_0 a0_1 a0_2 a0_3 a0_4 a0_5 a1_0 a1_1 a1_2 a1_3 a1_4 a1_5 s1 s2 cl x1 x2 ho r1 r2 w (fun W => impl_ShipOk.calls a0_0 a0_1 a0_2 a0_3 a0_4 a0_5 s1 W e0) (fun W => impl_ShipOk.calls a1_0 a1_1 a1_2 a1_3 a1_4 a1_5 s2 W e1) (fun W => impl_closing.calls a0_0 a0_1 a0_2 a0_3 a0_4 a0_5 a1_0 a1_1 a1_2 a1_3 a1_4 a1_5 cl W e2) (fun W => impl_Behind.calls k a0_0 a0_1 a0_2 a0_3 a0_4 a0_5 a1_0 a1_1 a1_2 a1_3 a1_4 a1_5 x1 W e3) (fun W => impl_Behind.calls k a1_0 a1_1 a1_2 a1_3 a1_4 a1_5 a0_0 a0_1 a0_2 a0_3 a0_4 a0_5 x2 W e4) (fun W => impl_HeadOn.calls k a0_0 a0_1 a0_2 a0_3 a0_4 a0_5 a1_0 a1_1 a1_2 a1_3 a1_4 a1_5 ho W e5) (fun W => impl_right.calls a0_0 a0_1 a0_2 a0_3 a0_4 a0_5 a1_0 a1_1 a1_2 a1_3 a1_4 a1_5 r1 W e6) (fun W => impl_right.calls a1_0 a1_1 a1_2 a1_3 a1_4 a1_5 a0_0 a0_1 a0_2 a0_3 a0_4 a0_5 r2 W e7)

end Go.Proofs.Ytfbokdbaondjdaa.PV1
