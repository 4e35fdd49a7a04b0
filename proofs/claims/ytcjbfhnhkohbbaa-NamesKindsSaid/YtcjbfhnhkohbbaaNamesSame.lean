/- The contracts of the functions of names and of the reference, in plain lists; the walk of arbourlaw6.same: true for every number and text. No condition. -/
import Derived.Test.YtcjbfhnhkohbbaaNamesPlain
import Derived.WalkSpells
import Derived.BigQuiet
import Derived.Deep.QuietTactic
import Derived.Below
import Derived.IntWalk
import Derived.WalkLawsBesides
namespace Go.Proofs.Ytcjbfhnhkohbbaa.Plain
open Go.RowKit Go.Proofs.Ytcjbfhnhkohbbaa.PNamesTells Go.Proofs.YtcjbfhnhkohbbaaW.PrintWords Go.Proofs.YtcjbfhnhkohbbaaW.PrintLast
theorem hide {p : Prop} (h : p) : Hid p := h
theorem below_drawn {w w' : World} (h : Drawn0 w w') : Below w.heap.size w w' := by
  obtain ⟨n, rfl⟩ := h.out
  exact pw_below_drewN (Below.refl _ _) _

theorem pVoid (s : ByteArray) (r : Bool) (h : inL s.toList VOID = r) (w : World) : Calls Try.prog 13 #[.string s] w fun e w' => e = .returned (.bool r) ∧ Below w.heap.size w w' :=
  (names_Void.calls s r w (by rw [Void_some, h])).mono fun _ _ h => ⟨h.1, below_drawn h.2⟩
theorem rVoid (s : ByteArray) (r : Bool) (h : inL s.toList VOID = r) (w : World) : Calls Try.prog 23 #[.string s] w fun e w' => e = .returned (.bool r) ∧ Below w.heap.size w w' :=
  (arbourref6_Void.calls 60 s r w (by rw [refVoid_some, h]))
theorem pFormatting (s : ByteArray) (r : Bool) (h : inL s.toList FORMATTING = r) (w : World) : Calls Try.prog 20 #[.string s] w fun e w' => e = .returned (.bool r) ∧ Below w.heap.size w w' :=
  (names_Formatting.calls s r w (by rw [Formatting_some, h])).mono fun _ _ h => ⟨h.1, below_drawn h.2⟩
theorem rFormatting (s : ByteArray) (r : Bool) (h : inL s.toList FORMATTING = r) (w : World) : Calls Try.prog 24 #[.string s] w fun e w' => e = .returned (.bool r) ∧ Below w.heap.size w w' :=
  (arbourref6_Formatting.calls 60 s r w (by rw [refFormatting_some, h]))
theorem pHeading (s : ByteArray) (r : Bool) (h : inL s.toList HEADING = r) (w : World) : Calls Try.prog 12 #[.string s] w fun e w' => e = .returned (.bool r) ∧ Below w.heap.size w w' :=
  (names_Heading.calls s r w (by rw [Heading_some, h])).mono fun _ _ h => ⟨h.1, below_drawn h.2⟩
theorem rHeading (s : ByteArray) (r : Bool) (h : inL s.toList HEADING = r) (w : World) : Calls Try.prog 25 #[.string s] w fun e w' => e = .returned (.bool r) ∧ Below w.heap.size w w' :=
  (arbourref6_Heading.calls 60 s r w (by rw [refHeading_some, h]))
theorem pBlock (s : ByteArray) (r : Bool) (h : inL s.toList BLOCK = r) (w : World) : Calls Try.prog 11 #[.string s] w fun e w' => e = .returned (.bool r) ∧ Below w.heap.size w w' :=
  (names_Block.calls s r w (by rw [Block_some, h])).mono fun _ _ h => ⟨h.1, below_drawn h.2⟩
theorem rBlock (s : ByteArray) (r : Bool) (h : inL s.toList BLOCK = r) (w : World) : Calls Try.prog 26 #[.string s] w fun e w' => e = .returned (.bool r) ∧ Below w.heap.size w w' :=
  (arbourref6_Block.calls 60 s r w (by rw [refBlock_some, h]))
theorem pSpecial (ns : Int) (s : ByteArray) (r : Bool) (h : specialOf ns s.toList = r) (w : World) : Calls Try.prog 14 #[.int .i64 ns, .string s] w fun e w' => e = .returned (.bool r) ∧ Below w.heap.size w w' :=
  (names_Special.calls 1 ns s r w (by rw [Special_some 0, h])).mono fun _ _ h => ⟨h.1, below_drawn h.2⟩
theorem rSpecial (ns : Int) (s : ByteArray) (r : Bool) (h : specialOf ns s.toList = r) (w : World) : Calls Try.prog 27 #[.int .i64 ns, .string s] w fun e w' => e = .returned (.bool r) ∧ Below w.heap.size w w' :=
  (arbourref6_Special.calls 60 ns s r w (by rw [refSpecial_some, h]))
theorem pImplied (s : ByteArray) (r : Bool) (h : inL s.toList IMPLIED = r) (w : World) : Calls Try.prog 15 #[.string s] w fun e w' => e = .returned (.bool r) ∧ Below w.heap.size w w' :=
  (names_Implied.calls s r w (by rw [Implied_some, h])).mono fun _ _ h => ⟨h.1, below_drawn h.2⟩
theorem rImplied (s : ByteArray) (r : Bool) (h : inL s.toList IMPLIED = r) (w : World) : Calls Try.prog 28 #[.string s] w fun e w' => e = .returned (.bool r) ∧ Below w.heap.size w w' :=
  (arbourref6_Implied.calls 60 s r w (by rw [refImplied_some, h]))
theorem pThorough (s : ByteArray) (r : Bool) (h : inL s.toList (THOROUGH ++ IMPLIED) = r) (w : World) : Calls Try.prog 16 #[.string s] w fun e w' => e = .returned (.bool r) ∧ Below w.heap.size w w' :=
  (names_Thorough.calls s r w (by rw [Thorough_some, h])).mono fun _ _ h => ⟨h.1, below_drawn h.2⟩
theorem rThorough (s : ByteArray) (r : Bool) (h : inL s.toList (THOROUGH ++ IMPLIED) = r) (w : World) : Calls Try.prog 29 #[.string s] w fun e w' => e = .returned (.bool r) ∧ Below w.heap.size w w' :=
  (arbourref6_Thorough.calls 60 s r w (by rw [refThorough_some, h]))
theorem pBound (ns : Int) (s : ByteArray) (r : Bool) (h : boundOf ns s.toList = r) (w : World) : Calls Try.prog 18 #[.int .i64 ns, .string s] w fun e w' => e = .returned (.bool r) ∧ Below w.heap.size w w' :=
  (names_Bound.calls ns s r w (by rw [Bound_some, h])).mono fun _ _ h => ⟨h.1, below_drawn h.2⟩
theorem rBound (ns : Int) (s : ByteArray) (r : Bool) (h : boundOf ns s.toList = r) (w : World) : Calls Try.prog 30 #[.int .i64 ns, .string s] w fun e w' => e = .returned (.bool r) ∧ Below w.heap.size w w' :=
  (arbourref6_Bound.calls 60 ns s r w (by rw [refBound_some, h]))
theorem pPoint (ns : Int) (s : ByteArray) (r : Bool) (h : pointOf ns s.toList = r) (w : World) : Calls Try.prog 17 #[.int .i64 ns, .string s] w fun e w' => e = .returned (.bool r) ∧ Below w.heap.size w w' :=
  (names_Point.calls ns s r w (by rw [Point_some, h])).mono fun _ _ h => ⟨h.1, below_drawn h.2⟩
theorem rPoint (ns : Int) (s : ByteArray) (r : Bool) (h : pointOf ns s.toList = r) (w : World) : Calls Try.prog 31 #[.int .i64 ns, .string s] w fun e w' => e = .returned (.bool r) ∧ Below w.heap.size w w' :=
  (arbourref6_Point.calls 60 ns s r w (by rw [refPoint_some, h]))
theorem pBreakout (s : ByteArray) (r : Bool) (h : inL s.toList (BREAKOUT ++ HEADING) = r) (w : World) : Calls Try.prog 32 #[.string s] w fun e w' => e = .returned (.bool r) ∧ Below w.heap.size w w' :=
  (names_Breakout.calls s r w (by rw [Breakout_some, h])).mono fun _ _ h => ⟨h.1, below_drawn h.2⟩
theorem rBreakout (s : ByteArray) (r : Bool) (h : inL s.toList (BREAKOUT ++ HEADING) = r) (w : World) : Calls Try.prog 33 #[.string s] w fun e w' => e = .returned (.bool r) ∧ Below w.heap.size w w' :=
  (arbourref6_Breakout.calls 60 s r w (by rw [refBreakout_some, h]))
theorem pFix (s : ByteArray) (r : ByteArray) (h : fixOf s = r) (w : World) : Calls Try.prog 19 #[.string s] w fun e w' => e = .returned (.string r) ∧ Below w.heap.size w w' :=
  (names_Fix.calls s r w (by rw [Fix_some, h])).mono fun _ _ h => ⟨h.1, below_drawn h.2⟩
theorem rFix (s : ByteArray) (r : ByteArray) (h : fixOf s = r) (w : World) : Calls Try.prog 34 #[.string s] w fun e w' => e = .returned (.string r) ∧ Below w.heap.size w w' :=
  (arbourref6_Fix.calls 60 s r w (by rw [refFix_some, h]))
theorem pRaw (s : ByteArray) (q : Bool) (r : Int) (h : rawOf s.toList q = r) (w : World) : Calls Try.prog 9 #[.string s, .bool q] w fun e w' => e = .returned (.int .i64 r) ∧ Below w.heap.size w w' :=
  (names_Raw.calls 2 s q r w (by rw [raw_some s q 0, h])).mono fun _ _ h => ⟨h.1, below_drawn h.2⟩
theorem rRaw (s : ByteArray) (q : Bool) (r : Int) (h : rawOf s.toList q = r) (w : World) : Calls Try.prog 35 #[.string s, .bool q] w fun e w' => e = .returned (.int .i64 r) ∧ Below w.heap.size w w' :=
  (arbourref6_Raw.calls 2 s q r w (by rw [refRaw_some s q 0, h])).mono fun _ _ h => ⟨h.1, below_drawn h.2⟩
set_option maxHeartbeats 2000000 in
set_option maxRecDepth 100000 in
theorem same (ns : Int) (s : ByteArray) (w : World) : Calls Try.prog 21 #[.int .i64 ns, .string s] w fun e w' => e = .returned (.bool true) ∧ Below w.heap.size w w' := by
  obtain ⟨bVoid, hVoid⟩ : ∃ b, inL s.toList VOID = b := ⟨_, rfl⟩
  have HVoid := hide hVoid
  obtain ⟨bFormatting, hFormatting⟩ : ∃ b, inL s.toList FORMATTING = b := ⟨_, rfl⟩
  have HFormatting := hide hFormatting
  obtain ⟨bHeading, hHeading⟩ : ∃ b, inL s.toList HEADING = b := ⟨_, rfl⟩
  have HHeading := hide hHeading
  obtain ⟨bBlock, hBlock⟩ : ∃ b, inL s.toList BLOCK = b := ⟨_, rfl⟩
  have HBlock := hide hBlock
  obtain ⟨bSpecial, hSpecial⟩ : ∃ b, specialOf ns s.toList = b := ⟨_, rfl⟩
  have HSpecial := hide hSpecial
  obtain ⟨bImplied, hImplied⟩ : ∃ b, inL s.toList IMPLIED = b := ⟨_, rfl⟩
  have HImplied := hide hImplied
  obtain ⟨bThorough, hThorough⟩ : ∃ b, inL s.toList (THOROUGH ++ IMPLIED) = b := ⟨_, rfl⟩
  have HThorough := hide hThorough
  obtain ⟨bBound, hBound⟩ : ∃ b, boundOf ns s.toList = b := ⟨_, rfl⟩
  have HBound := hide hBound
  obtain ⟨bPoint, hPoint⟩ : ∃ b, pointOf ns s.toList = b := ⟨_, rfl⟩
  have HPoint := hide hPoint
  obtain ⟨bBreakout, hBreakout⟩ : ∃ b, inL s.toList (BREAKOUT ++ HEADING) = b := ⟨_, rfl⟩
  have HBreakout := hide hBreakout
  obtain ⟨bFix, hFix⟩ : ∃ b, fixOf s = b := ⟨_, rfl⟩
  have HFix := hide hFix
  obtain ⟨bRawtrue, hRawtrue⟩ : ∃ b, rawOf s.toList true = b := ⟨_, rfl⟩
  have HRawtrue := hide hRawtrue
  obtain ⟨bRawfalse, hRawfalse⟩ : ∃ b, rawOf s.toList false = b := ⟨_, rfl⟩
  have HRawfalse := hide hRawfalse
  clear hVoid hFormatting hHeading hBlock hSpecial hImplied hThorough hBound hPoint hBreakout hFix hRawtrue hRawfalse
  have HB := hide (Below.refl w.heap.size w)
  go_enter Try.func21, Try.ntmps21
  go_wp2_with (first
    | (go_at_call 13; (with_reducible refine (pVoid s _ HVoid.out _).mono ?_); rintro e w3 ⟨rfl, hb3⟩; have HB3 := hide (below_step HB.out hb3); clear HB hb3; have HB := HB3; clear HB3; dsimp only)
    | (go_at_call 23; (with_reducible refine (rVoid s _ HVoid.out _).mono ?_); rintro e w3 ⟨rfl, hb3⟩; have HB3 := hide (below_step HB.out hb3); clear HB hb3; have HB := HB3; clear HB3; dsimp only)
    | (go_at_call 20; (with_reducible refine (pFormatting s _ HFormatting.out _).mono ?_); rintro e w3 ⟨rfl, hb3⟩; have HB3 := hide (below_step HB.out hb3); clear HB hb3; have HB := HB3; clear HB3; dsimp only)
    | (go_at_call 24; (with_reducible refine (rFormatting s _ HFormatting.out _).mono ?_); rintro e w3 ⟨rfl, hb3⟩; have HB3 := hide (below_step HB.out hb3); clear HB hb3; have HB := HB3; clear HB3; dsimp only)
    | (go_at_call 12; (with_reducible refine (pHeading s _ HHeading.out _).mono ?_); rintro e w3 ⟨rfl, hb3⟩; have HB3 := hide (below_step HB.out hb3); clear HB hb3; have HB := HB3; clear HB3; dsimp only)
    | (go_at_call 25; (with_reducible refine (rHeading s _ HHeading.out _).mono ?_); rintro e w3 ⟨rfl, hb3⟩; have HB3 := hide (below_step HB.out hb3); clear HB hb3; have HB := HB3; clear HB3; dsimp only)
    | (go_at_call 11; (with_reducible refine (pBlock s _ HBlock.out _).mono ?_); rintro e w3 ⟨rfl, hb3⟩; have HB3 := hide (below_step HB.out hb3); clear HB hb3; have HB := HB3; clear HB3; dsimp only)
    | (go_at_call 26; (with_reducible refine (rBlock s _ HBlock.out _).mono ?_); rintro e w3 ⟨rfl, hb3⟩; have HB3 := hide (below_step HB.out hb3); clear HB hb3; have HB := HB3; clear HB3; dsimp only)
    | (go_at_call 14; (with_reducible refine (pSpecial ns s _ HSpecial.out _).mono ?_); rintro e w3 ⟨rfl, hb3⟩; have HB3 := hide (below_step HB.out hb3); clear HB hb3; have HB := HB3; clear HB3; dsimp only)
    | (go_at_call 27; (with_reducible refine (rSpecial ns s _ HSpecial.out _).mono ?_); rintro e w3 ⟨rfl, hb3⟩; have HB3 := hide (below_step HB.out hb3); clear HB hb3; have HB := HB3; clear HB3; dsimp only)
    | (go_at_call 15; (with_reducible refine (pImplied s _ HImplied.out _).mono ?_); rintro e w3 ⟨rfl, hb3⟩; have HB3 := hide (below_step HB.out hb3); clear HB hb3; have HB := HB3; clear HB3; dsimp only)
    | (go_at_call 28; (with_reducible refine (rImplied s _ HImplied.out _).mono ?_); rintro e w3 ⟨rfl, hb3⟩; have HB3 := hide (below_step HB.out hb3); clear HB hb3; have HB := HB3; clear HB3; dsimp only)
    | (go_at_call 16; (with_reducible refine (pThorough s _ HThorough.out _).mono ?_); rintro e w3 ⟨rfl, hb3⟩; have HB3 := hide (below_step HB.out hb3); clear HB hb3; have HB := HB3; clear HB3; dsimp only)
    | (go_at_call 29; (with_reducible refine (rThorough s _ HThorough.out _).mono ?_); rintro e w3 ⟨rfl, hb3⟩; have HB3 := hide (below_step HB.out hb3); clear HB hb3; have HB := HB3; clear HB3; dsimp only)
    | (go_at_call 18; (with_reducible refine (pBound ns s _ HBound.out _).mono ?_); rintro e w3 ⟨rfl, hb3⟩; have HB3 := hide (below_step HB.out hb3); clear HB hb3; have HB := HB3; clear HB3; dsimp only)
    | (go_at_call 30; (with_reducible refine (rBound ns s _ HBound.out _).mono ?_); rintro e w3 ⟨rfl, hb3⟩; have HB3 := hide (below_step HB.out hb3); clear HB hb3; have HB := HB3; clear HB3; dsimp only)
    | (go_at_call 17; (with_reducible refine (pPoint ns s _ HPoint.out _).mono ?_); rintro e w3 ⟨rfl, hb3⟩; have HB3 := hide (below_step HB.out hb3); clear HB hb3; have HB := HB3; clear HB3; dsimp only)
    | (go_at_call 31; (with_reducible refine (rPoint ns s _ HPoint.out _).mono ?_); rintro e w3 ⟨rfl, hb3⟩; have HB3 := hide (below_step HB.out hb3); clear HB hb3; have HB := HB3; clear HB3; dsimp only)
    | (go_at_call 32; (with_reducible refine (pBreakout s _ HBreakout.out _).mono ?_); rintro e w3 ⟨rfl, hb3⟩; have HB3 := hide (below_step HB.out hb3); clear HB hb3; have HB := HB3; clear HB3; dsimp only)
    | (go_at_call 33; (with_reducible refine (rBreakout s _ HBreakout.out _).mono ?_); rintro e w3 ⟨rfl, hb3⟩; have HB3 := hide (below_step HB.out hb3); clear HB hb3; have HB := HB3; clear HB3; dsimp only)
    | (go_at_call 19; (with_reducible refine (pFix s _ HFix.out _).mono ?_); rintro e w3 ⟨rfl, hb3⟩; have HB3 := hide (below_step HB.out hb3); clear HB hb3; have HB := HB3; clear HB3; dsimp only)
    | (go_at_call 34; (with_reducible refine (rFix s _ HFix.out _).mono ?_); rintro e w3 ⟨rfl, hb3⟩; have HB3 := hide (below_step HB.out hb3); clear HB hb3; have HB := HB3; clear HB3; dsimp only)
    | (go_at_call 9; (first | (with_reducible refine (pRaw s true _ HRawtrue.out _).mono ?_) | (with_reducible refine (pRaw s false _ HRawfalse.out _).mono ?_)); rintro e w3 ⟨rfl, hb3⟩; have HB3 := hide (below_step HB.out hb3); clear HB hb3; have HB := HB3; clear HB3; dsimp only)
    | (go_at_call 35; (first | (with_reducible refine (rRaw s true _ HRawtrue.out _).mono ?_) | (with_reducible refine (rRaw s false _ HRawfalse.out _).mono ?_)); rintro e w3 ⟨rfl, hb3⟩; have HB3 := hide (below_step HB.out hb3); clear HB hb3; have HB := HB3; clear HB3; dsimp only))
  go_ret
  exact ⟨by simp, HB.out⟩
end Go.Proofs.Ytcjbfhnhkohbbaa.Plain
