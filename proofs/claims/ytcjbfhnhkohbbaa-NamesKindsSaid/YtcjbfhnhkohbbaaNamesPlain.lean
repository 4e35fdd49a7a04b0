/- In plain lists: what the functions of names and of the reference answer, as membership in lists. No condition. -/
import Derived.Test.YtcjbfhnhkohbbaaPNamesTellsx1
import Derived.Test.YtcjbfhnhkohbbaaPNamesTellsx2
import Derived.Test.YtcjbfhnhkohbbaaPNamesTellsx3
import Derived.Test.YtcjbfhnhkohbbaaPNamesTellsx4
import Derived.Test.YtcjbfhnhkohbbaaPNamesTellsx5
namespace Go.Proofs.Ytcjbfhnhkohbbaa.Plain
open Go.RowKit Go.Proofs.Ytcjbfhnhkohbbaa.PNamesTells Go.Proofs.YtcjbfhnhkohbbaaW.PrintWords Go.Proofs.YtcjbfhnhkohbbaaW.PrintLast

def inL (l : List UInt8) (L : List (List UInt8)) : Bool := L.foldr (fun x b => decide (l = x) || b) false
theorem ite_any (l x : List UInt8) (b : Bool) : (if l = x then some true else some b) = some (decide (l = x) || b) := by
  by_cases h : l = x
  · rw [if_pos h, decide_eq_true h]; rfl
  · rw [if_neg h, decide_eq_false h]; rfl

def VOID : List (List UInt8) := [[97, 114, 101, 97], [98, 97, 115, 101], [98, 114], [99, 111, 108], [101, 109, 98, 101, 100], [104, 114], [105, 109, 103], [105, 110, 112, 117, 116], [108, 105, 110, 107], [109, 101, 116, 97], [115, 111, 117, 114, 99, 101], [119, 98, 114]]
def FORMATTING : List (List UInt8) := [[97], [98], [99, 111, 100, 101], [101, 109], [102, 111, 110, 116], [105], [110, 111, 98, 114], [115, 109, 97, 108, 108], [115, 116, 114, 111, 110, 103], [117]]
def HEADING : List (List UInt8) := [[104, 49], [104, 50], [104, 51], [104, 52], [104, 53], [104, 54]]
def BLOCK : List (List UInt8) := [[97, 100, 100, 114, 101, 115, 115], [97, 114, 116, 105, 99, 108, 101], [98, 108, 111, 99, 107, 113, 117, 111, 116, 101], [99, 101, 110, 116, 101, 114], [100, 105, 118], [100, 108], [109, 97, 105, 110], [110, 97, 118], [111, 108], [115, 101, 99, 116, 105, 111, 110], [117, 108]]
def POINT : List (List UInt8) := [[102, 111, 114, 101, 105, 103, 110, 79, 98, 106, 101, 99, 116], [100, 101, 115, 99], [116, 105, 116, 108, 101]]
def SPECIAL : List (List UInt8) := [[97, 112, 112, 108, 101, 116], [98, 111, 100, 121], [98, 117, 116, 116, 111, 110], [100, 100], [100, 116], [102, 111, 114, 109], [104, 101, 97, 100], [104, 116, 109, 108], [108, 105], [109, 97, 114, 113, 117, 101, 101], [111, 98, 106, 101, 99, 116], [112], [112, 108, 97, 105, 110, 116, 101, 120, 116], [112, 114, 101], [115, 99, 114, 105, 112, 116], [115, 116, 121, 108, 101], [116, 97, 98, 108, 101], [116, 98, 111, 100, 121], [116, 100], [116, 101, 109, 112, 108, 97, 116, 101], [116, 101, 120, 116, 97, 114, 101, 97], [116, 102, 111, 111, 116], [116, 104], [116, 104, 101, 97, 100], [116, 105, 116, 108, 101], [116, 114], [120, 109, 112]]
def IMPLIED : List (List UInt8) := [[100, 100], [100, 116], [108, 105], [112]]
def THOROUGH : List (List UInt8) := [[116, 98, 111, 100, 121], [116, 100], [116, 102, 111, 111, 116], [116, 104], [116, 104, 101, 97, 100], [116, 114]]
def BOUND : List (List UInt8) := [[97, 112, 112, 108, 101, 116], [104, 116, 109, 108], [109, 97, 114, 113, 117, 101, 101], [111, 98, 106, 101, 99, 116], [116, 97, 98, 108, 101], [116, 100], [116, 101, 109, 112, 108, 97, 116, 101], [116, 104]]
def BREAKOUT : List (List UInt8) := [[98], [98, 108, 111, 99, 107, 113, 117, 111, 116, 101], [98, 111, 100, 121], [98, 114], [99, 101, 110, 116, 101, 114], [99, 111, 100, 101], [100, 100], [100, 105, 118], [100, 108], [100, 116], [101, 109], [101, 109, 98, 101, 100], [104, 101, 97, 100], [104, 114], [105], [105, 109, 103], [108, 105], [109, 101, 116, 97], [110, 111, 98, 114], [111, 108], [112], [112, 114, 101], [115, 109, 97, 108, 108], [115, 116, 114, 111, 110, 103], [116, 97, 98, 108, 101], [117], [117, 108]]
theorem Void_some (s : ByteArray) : names_Void.f s = some (inL s.toList VOID) := by
  unfold names_Void.f
  simp only [ite_any]
  rfl
theorem Formatting_some (s : ByteArray) : names_Formatting.f s = some (inL s.toList FORMATTING) := by
  unfold names_Formatting.f
  simp only [ite_any]
  rfl
theorem Heading_some (s : ByteArray) : names_Heading.f s = some (inL s.toList HEADING) := by
  unfold names_Heading.f
  simp only [ite_any]
  rfl
theorem Block_some (s : ByteArray) : names_Block.f s = some (inL s.toList BLOCK) := by
  unfold names_Block.f
  simp only [ite_any]
  rfl
theorem Implied_some (s : ByteArray) : names_Implied.f s = some (inL s.toList IMPLIED) := by
  unfold names_Implied.f
  simp only [ite_any]
  rfl

def pointOf (ns : Int) (l : List UInt8) : Bool := inL l POINT && (ns == 2)
theorem Point_some (ns : Int) (s : ByteArray) : names_Point.f ns s = some (pointOf ns s.toList) := by
  unfold names_Point.f pointOf inL POINT
  generalize s.toList = l
  simp only [List.foldr_cons, List.foldr_nil]
  by_cases h1 : l = [102, 111, 114, 101, 105, 103, 110, 79, 98, 106, 101, 99, 116]
  · rw [if_pos h1, decide_eq_true h1]; simp
  · rw [if_neg h1, decide_eq_false h1]
    by_cases h2 : l = [100, 101, 115, 99]
    · rw [if_pos h2, decide_eq_true h2]; simp
    · rw [if_neg h2, decide_eq_false h2]
      by_cases h3 : l = [116, 105, 116, 108, 101]
      · rw [if_pos h3, decide_eq_true h3]; simp
      · rw [if_neg h3, decide_eq_false h3]; simp

theorem Thorough_some (s : ByteArray) : names_Thorough.f s = some (inL s.toList (THOROUGH ++ IMPLIED)) := by
  unfold names_Thorough.f
  rw [Implied_some]
  simp only [Option.bind_some, ite_any]
  rfl
theorem Breakout_some (s : ByteArray) : names_Breakout.f s = some (inL s.toList (BREAKOUT ++ HEADING)) := by
  unfold names_Breakout.f
  rw [Heading_some]
  simp only [Option.bind_some, ite_any]
  rfl
def boundOf (ns : Int) (l : List UInt8) : Bool := if ns = 1 then inL l BOUND else pointOf ns l
theorem Bound_some (ns : Int) (s : ByteArray) : names_Bound.f ns s = some (boundOf ns s.toList) := by
  unfold names_Bound.f boundOf
  rw [Point_some]
  by_cases h : ns = 1
  · rw [if_pos h, if_pos h]
    simp only [ite_any]
    rfl
  · rw [if_neg h, if_neg h]; rfl
theorem j0_chain (k : Nat) (s : ByteArray) (l x : List UInt8) (b : Bool) : (if l = x then names_Special.j0 k s (l == x) else names_Special.j0 k s b) = names_Special.j0 k s (decide (l = x) || b) := by
  by_cases h : l = x
  · rw [if_pos h, decide_eq_true h, beq_iff_eq.2 h]; rfl
  · rw [if_neg h, decide_eq_false h]; rfl
def specialOf (ns : Int) (l : List UInt8) : Bool := if ns = 1 then (inL l SPECIAL || (inL l BLOCK || (inL l HEADING || inL l VOID))) else pointOf ns l
theorem Special_some (k : Nat) (ns : Int) (s : ByteArray) : names_Special.f (k + 1) ns s = some (specialOf ns s.toList) := by
  unfold names_Special.f specialOf
  rw [Point_some]
  by_cases h : ns = 1
  · rw [if_pos h, if_pos h]
    simp only [j0_chain]
    have e : ∀ b : Bool, names_Special.j0 (k + 1) s b = some (b || (inL s.toList BLOCK || (inL s.toList HEADING || inL s.toList VOID))) := by
      intro b
      simp only [names_Special.j0, Block_some, Heading_some, Void_some, Option.bind_some]
      cases b
      · rw [if_neg (by decide)]
        cases inL s.toList BLOCK
        · rw [if_neg (by decide)]
          cases inL s.toList HEADING
          · rw [if_neg (by decide)]; rfl
          · rfl
        · rfl
      · rfl
    rw [e]
    have e2 : ∀ x : List UInt8, (s.toList == x) = (decide (s.toList = x) || false) := by
      intro x
      rw [Bool.or_false]
      by_cases hx : s.toList = x
      · rw [decide_eq_true hx, beq_iff_eq.2 hx]
      · rw [decide_eq_false hx, beq_eq_false_iff_ne.2 hx]
    simp only [e2]
    rfl
  · rw [if_neg h, if_neg h]; rfl


/-! the reference -/
theorem in_loop (s : ByteArray) (xs : List ByteArray) (hx : xs.length < 1000) : ∀ (d k i : Nat), i ≤ xs.length → xs.length - i = d → d < k → arbourref6_in.l0 k s xs (i : Int) = some (inL s.toList ((xs.drop i).map ByteArray.toList)) := by
  intro d
  induction d with
  | zero =>
    intro k i hi hd hk
    obtain ⟨k, rfl⟩ : ∃ m, k = m + 1 := ⟨k - 1, by omega⟩
    simp only [arbourref6_in.l0]
    rw [if_neg (by omega), List.drop_of_length_le (by omega)]
    rfl
  | succ d ih =>
    intro k i hi hd hk
    obtain ⟨k, rfl⟩ : ∃ m, k = m + 1 := ⟨k - 1, by omega⟩
    have hlt : i < xs.length := by omega
    have ew : wrap64 ((i : Int) + 1) = ((i + 1 : Nat) : Int) := by unfold wrap64; omega
    have hr : rdOf ByteArray.empty xs (i : Int) = xs[i] := by simp [rdOf, List.getD_eq_getElem?_getD, List.getElem?_eq_getElem hlt]
    simp only [arbourref6_in.l0]
    rw [if_pos (by omega), if_pos (by omega), hr, ew, ih k (i + 1) (by omega) (by omega) (by omega), List.drop_eq_getElem_cons hlt, List.map_cons]
    unfold inL
    rw [List.foldr_cons]
    by_cases h : xs[i].toList = s.toList
    · rw [if_pos h, decide_eq_true h.symm]; rfl
    · rw [if_neg h, decide_eq_false (fun e => h e.symm)]; rfl
theorem in_some (s : ByteArray) (xs : List ByteArray) (L : List (List UInt8)) (hL : xs.map ByteArray.toList = L) (hx : xs.length < 60) (k : Nat) (hk : 60 ≤ k) : arbourref6_in.f k s xs = some (inL s.toList L) := by
  unfold arbourref6_in.f
  have := in_loop s xs (by omega) xs.length k 0 (by omega) (by omega) (by omega)
  rw [List.drop_zero, hL] at this
  exact this

theorem refVoid_some (s : ByteArray) : arbourref6_Void.f 60 s = some (inL s.toList VOID) := by
  unfold arbourref6_Void.f
  rw [in_some s _ VOID (by decide +kernel) (by decide) 60 (by omega)]
  rfl
theorem refFormatting_some (s : ByteArray) : arbourref6_Formatting.f 60 s = some (inL s.toList FORMATTING) := by
  unfold arbourref6_Formatting.f
  rw [in_some s _ FORMATTING (by decide +kernel) (by decide) 60 (by omega)]
  rfl
theorem refHeading_some (s : ByteArray) : arbourref6_Heading.f 60 s = some (inL s.toList HEADING) := by
  unfold arbourref6_Heading.f
  rw [in_some s _ HEADING (by decide +kernel) (by decide) 60 (by omega)]
  rfl
theorem refBlock_some (s : ByteArray) : arbourref6_Block.f 60 s = some (inL s.toList BLOCK) := by
  unfold arbourref6_Block.f
  rw [in_some s _ BLOCK (by decide +kernel) (by decide) 60 (by omega)]
  rfl
theorem refImplied_some (s : ByteArray) : arbourref6_Implied.f 60 s = some (inL s.toList IMPLIED) := by
  unfold arbourref6_Implied.f
  rw [in_some s _ IMPLIED (by decide +kernel) (by decide) 60 (by omega)]
  rfl

theorem inL_append (l : List UInt8) : ∀ (A B : List (List UInt8)), inL l (A ++ B) = (inL l A || inL l B)
  | [], _ => rfl
  | a :: A, B => by
    have := inL_append l A B
    unfold inL at this ⊢
    rw [List.cons_append, List.foldr_cons, this, List.foldr_cons, Bool.or_assoc]
theorem or_ite (a b : Bool) : (if a = true then some true else some b) = some (a || b) := by cases a <;> rfl
theorem refPoint_some (ns : Int) (s : ByteArray) : arbourref6_Point.f 60 ns s = some (pointOf ns s.toList) := by
  unfold arbourref6_Point.f pointOf
  by_cases h : ns = 2
  · rw [if_pos h, in_some s _ POINT (by decide +kernel) (by decide) 60 (by omega)]
    subst h
    simp
  · rw [if_neg h, beq_eq_false_iff_ne.2 h, Bool.and_false]
theorem refThorough_some (s : ByteArray) : arbourref6_Thorough.f 60 s = some (inL s.toList (THOROUGH ++ IMPLIED)) := by
  unfold arbourref6_Thorough.f
  rw [refImplied_some, in_some s _ THOROUGH (by decide +kernel) (by decide) 60 (by omega)]
  simp only [Option.bind_some, or_ite, inL_append]
  rw [Bool.or_comm]
theorem refBreakout_some (s : ByteArray) : arbourref6_Breakout.f 60 s = some (inL s.toList (BREAKOUT ++ HEADING)) := by
  unfold arbourref6_Breakout.f
  rw [refHeading_some, in_some s _ BREAKOUT (by decide +kernel) (by decide) 60 (by omega)]
  simp only [Option.bind_some, or_ite, inL_append]
  rw [Bool.or_comm]
theorem point_off (l : List UInt8) : pointOf 1 l = false := by unfold pointOf; simp
theorem refBound_some (ns : Int) (s : ByteArray) : arbourref6_Bound.f 60 ns s = some (boundOf ns s.toList) := by
  unfold arbourref6_Bound.f boundOf
  rw [refPoint_some, in_some s _ BOUND (by decide +kernel) (by decide) 60 (by omega)]
  simp only [Option.bind_some]
  by_cases h : ns = 1
  · subst h
    rw [point_off, if_neg (by decide), if_pos rfl, if_pos rfl]
  · rw [if_neg h, if_neg h, or_ite, Bool.or_false]
theorem refSpecial_some (ns : Int) (s : ByteArray) : arbourref6_Special.f 60 ns s = some (specialOf ns s.toList) := by
  unfold arbourref6_Special.f specialOf
  rw [refPoint_some, refBlock_some, refHeading_some, refVoid_some, in_some s _ SPECIAL (by decide +kernel) (by decide) 60 (by omega)]
  simp only [Option.bind_some, or_ite]
  by_cases h : ns = 1
  · subst h
    rw [point_off, if_pos rfl, if_pos rfl, if_neg (by decide)]
    congr 1
    cases inL s.toList SPECIAL <;> cases inL s.toList BLOCK <;> cases inL s.toList HEADING <;> cases inL s.toList VOID <;> rfl
  · rw [if_neg h, if_neg h, or_ite, Bool.or_false]

def rawOf (l : List UInt8) (b : Bool) : Int :=
  if l = [116, 101, 120, 116, 97, 114, 101, 97] then 2 else if l = [116, 105, 116, 108, 101] then 2
  else if l = [115, 99, 114, 105, 112, 116] then 3 else if l = [115, 116, 121, 108, 101] then 3 else if l = [120, 109, 112] then 3
  else if l = [110, 111, 115, 99, 114, 105, 112, 116] then (if b = true then 3 else 1) else if l = [112, 108, 97, 105, 110, 116, 101, 120, 116] then 4 else 1
theorem raw_some (y : ByteArray) (b : Bool) (k : Nat) : names_Raw.f (k + 2) y b = some (rawOf y.toList b) := by
  unfold names_Raw.f rawOf
  simp only [names_Raw.j0, names_Raw.j1]
  generalize y.toList = l
  by_cases h1 : l = [116, 101, 120, 116, 97, 114, 101, 97]
  · subst h1; rfl
  · rw [if_neg h1, if_neg h1]
    by_cases h2 : l = [116, 105, 116, 108, 101]
    · subst h2; rfl
    · rw [if_neg h2, beq_eq_false_iff_ne.2 h2, if_neg (by decide)]
      by_cases h3 : l = [115, 99, 114, 105, 112, 116]
      · subst h3; rfl
      · rw [if_neg h3, if_neg h3]
        by_cases h4 : l = [115, 116, 121, 108, 101]
        · subst h4; rfl
        · rw [if_neg h4, if_neg h4]
          by_cases h5 : l = [120, 109, 112]
          · subst h5; rfl
          · rw [if_neg h5, beq_eq_false_iff_ne.2 h5, if_neg (by decide)]
            by_cases h6 : l = [110, 111, 115, 99, 114, 105, 112, 116]
            · subst h6; cases b <;> rfl
            · rw [if_neg h6, if_neg h6]
              by_cases h7 : l = [112, 108, 97, 105, 110, 116, 101, 120, 116]
              · subst h7; rfl
              · rw [if_neg h7, if_neg h7]

theorem raw_laws (l : List UInt8) : ((rawOf l true != rawOf l false) != (l == [110, 111, 115, 99, 114, 105, 112, 116])) = false ∧ ¬ rawOf l true < 1 ∧ ¬ rawOf l true > 4 ∧ ¬ rawOf l false < 1 ∧ decide (rawOf l false > 4) = false ∧
    (rawOf l true = 4 ↔ l = [112, 108, 97, 105, 110, 116, 101, 120, 116]) := by
  unfold rawOf
  by_cases h1 : l = [116, 101, 120, 116, 97, 114, 101, 97]
  · subst h1; decide
  · by_cases h2 : l = [116, 105, 116, 108, 101]
    · subst h2; decide
    · by_cases h3 : l = [115, 99, 114, 105, 112, 116]
      · subst h3; decide
      · by_cases h4 : l = [115, 116, 121, 108, 101]
        · subst h4; decide
        · by_cases h5 : l = [120, 109, 112]
          · subst h5; decide
          · by_cases h6 : l = [110, 111, 115, 99, 114, 105, 112, 116]
            · subst h6; decide
            · by_cases h7 : l = [112, 108, 97, 105, 110, 116, 101, 120, 116]
              · subst h7; decide
              · simp [h1, h2, h3, h4, h5, h6, h7]


theorem refRaw_some (y : ByteArray) (b : Bool) (k : Nat) : arbourref6_Raw.f (k + 2) y b = some (rawOf y.toList b) := by
  unfold arbourref6_Raw.f rawOf
  simp only [arbourref6_Raw.j0, arbourref6_Raw.j1]
  generalize y.toList = l
  by_cases h1 : l = [116, 101, 120, 116, 97, 114, 101, 97]
  · subst h1; rfl
  · rw [if_neg h1, if_neg h1]
    by_cases h2 : l = [116, 105, 116, 108, 101]
    · subst h2; rfl
    · rw [if_neg h2, beq_eq_false_iff_ne.2 h2, if_neg (by decide)]
      by_cases h3 : l = [115, 99, 114, 105, 112, 116]
      · subst h3; rfl
      · rw [if_neg h3, if_neg h3]
        by_cases h4 : l = [115, 116, 121, 108, 101]
        · subst h4; rfl
        · rw [if_neg h4, if_neg h4]
          by_cases h5 : l = [120, 109, 112]
          · subst h5; rfl
          · rw [if_neg h5, beq_eq_false_iff_ne.2 h5, if_neg (by decide)]
            by_cases h6 : l = [110, 111, 115, 99, 114, 105, 112, 116]
            · subst h6; cases b <;> rfl
            · rw [if_neg h6]
              by_cases h7 : l = [112, 108, 97, 105, 110, 116, 101, 120, 116]
              · subst h7; rfl
              · rw [if_neg h7, if_neg h7, if_neg h6]


def FIX : List (List UInt8 × ByteArray) := [([102, 111, 114, 101, 105, 103, 110, 111, 98, 106, 101, 99, 116], ⟨#[102, 111, 114, 101, 105, 103, 110, 79, 98, 106, 101, 99, 116]⟩), ([118, 105, 101, 119, 98, 111, 120], ⟨#[118, 105, 101, 119, 66, 111, 120]⟩), ([99, 108, 105, 112, 112, 97, 116, 104], ⟨#[99, 108, 105, 112, 80, 97, 116, 104]⟩), ([108, 105, 110, 101, 97, 114, 103, 114, 97, 100, 105, 101, 110, 116], ⟨#[108, 105, 110, 101, 97, 114, 71, 114, 97, 100, 105, 101, 110, 116]⟩), ([116, 101, 120, 116, 112, 97, 116, 104], ⟨#[116, 101, 120, 116, 80, 97, 116, 104]⟩), ([112, 114, 101, 115, 101, 114, 118, 101, 97, 115, 112, 101, 99, 116, 114, 97, 116, 105, 111], ⟨#[112, 114, 101, 115, 101, 114, 118, 101, 65, 115, 112, 101, 99, 116, 82, 97, 116, 105, 111]⟩)]
def fixIn (s : ByteArray) (L : List (List UInt8 × ByteArray)) : ByteArray := L.foldr (fun x b => if s.toList = x.1 then x.2 else b) s
def fixOf (s : ByteArray) : ByteArray := fixIn s FIX
theorem ite_some {c : Prop} [Decidable c] (a b : ByteArray) : (if c then some a else some b) = some (if c then a else b) := by split <;> rfl
theorem Fix_some (s : ByteArray) : names_Fix.f s = some (fixOf s) := by
  unfold names_Fix.f
  simp only [ite_some]
  rfl
theorem fix_loop (s : ByteArray) (F T : List ByteArray) (hl : F.length = T.length) (hx : F.length < 1000) : ∀ (d k i : Nat), i ≤ F.length → F.length - i = d → d < k →
    arbourref6_Fix.l0 k s F T (i : Int) = some (fixIn s (((F.map ByteArray.toList).zip T).drop i)) := by
  intro d
  induction d with
  | zero =>
    intro k i hi hd hk
    obtain ⟨k, rfl⟩ : ∃ m, k = m + 1 := ⟨k - 1, by omega⟩
    simp only [arbourref6_Fix.l0]
    rw [if_neg (by omega), List.drop_of_length_le (by simp; omega)]
    rfl
  | succ d ih =>
    intro k i hi hd hk
    obtain ⟨k, rfl⟩ : ∃ m, k = m + 1 := ⟨k - 1, by omega⟩
    have hlt : i < F.length := by omega
    have hlt2 : i < T.length := by omega
    have ew : wrap64 ((i : Int) + 1) = ((i + 1 : Nat) : Int) := by unfold wrap64; omega
    have hr : rdOf ByteArray.empty F (i : Int) = F[i] := by simp [rdOf, List.getD_eq_getElem?_getD, List.getElem?_eq_getElem hlt]
    have hr2 : rdOf ByteArray.empty T (i : Int) = T[i] := by simp [rdOf, List.getD_eq_getElem?_getD, List.getElem?_eq_getElem hlt2]
    have hz : i < ((F.map ByteArray.toList).zip T).length := by simp; omega
    simp only [arbourref6_Fix.l0]
    rw [if_pos (by omega), if_pos (by omega), hr, hr2, ew, ih k (i + 1) (by omega) (by omega) (by omega), List.drop_eq_getElem_cons hz]
    unfold fixIn
    rw [List.foldr_cons, List.getElem_zip, List.getElem_map]
    by_cases h : F[i].toList = s.toList
    · rw [if_pos h, if_pos (by omega), if_pos h.symm]
    · rw [if_neg h, if_neg (fun e => h e.symm)]
theorem fix_some (s : ByteArray) (F T : List ByteArray) (L : List (List UInt8 × ByteArray)) (hL : (F.map ByteArray.toList).zip T = L) (hl : F.length = T.length) (hx : F.length < 60) : arbourref6_Fix.l0 60 s F T 0 = some (fixIn s L) := by
  have := fix_loop s F T hl (by omega) F.length 60 0 (by omega) (by omega) (by omega)
  rw [List.drop_zero, hL] at this
  exact this
theorem refFix_some (s : ByteArray) : arbourref6_Fix.f 60 s = some (fixOf s) := by
  unfold arbourref6_Fix.f fixOf
  exact fix_some s _ _ FIX (by decide +kernel) (by decide) (by decide)
end Go.Proofs.Ytcjbfhnhkohbbaa.Plain
