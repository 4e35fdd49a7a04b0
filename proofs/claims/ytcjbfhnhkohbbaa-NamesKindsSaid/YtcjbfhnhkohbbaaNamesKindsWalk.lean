/- The walk of arbourlaw6.NamesKinds: true for every text and number. No condition. -/
import Derived.Test.YtcjbfhnhkohbbaaNamesTellsWalk
namespace Go.Proofs.Ytcjbfhnhkohbbaa.Plain
open Go.RowKit Go.Proofs.Ytcjbfhnhkohbbaa.PNamesTells Go.Proofs.YtcjbfhnhkohbbaaW.PrintWords Go.Proofs.YtcjbfhnhkohbbaaW.PrintLast

theorem inL_mem (l : List UInt8) : ∀ L : List (List UInt8), inL l L = true ↔ l ∈ L
  | [] => by simp [inL]
  | a :: L => by
    have := inL_mem l L
    unfold inL at this ⊢
    rw [List.foldr_cons, Bool.or_eq_true, this, decide_eq_true_eq, List.mem_cons]

/-- What a name in one class is besides. -/
def off (l : List UInt8) : Bool := !inL l IMPLIED && !pointOf 2 l && !inL l FORMATTING && (rawOf l true == 1)
theorem block_off : ∀ l ∈ BLOCK, off l = true := by decide +kernel
theorem heading_off : ∀ l ∈ HEADING, off l = true := by decide +kernel
theorem void_off : ∀ l ∈ VOID, off l = true := by decide +kernel
theorem implied_off : ∀ l ∈ IMPLIED, (!pointOf 2 l && !inL l FORMATTING && (rawOf l true == 1) && inL l (THOROUGH ++ IMPLIED)) = true := by decide +kernel
theorem point_formatting : ∀ l ∈ POINT, inL l FORMATTING = false := by decide +kernel
theorem formatting_off : ∀ l ∈ FORMATTING, (!specialOf 1 l && (rawOf l true == 1)) = true := by decide +kernel
theorem off_parts {l : List UInt8} (h : off l = true) : inL l IMPLIED = false ∧ pointOf 2 l = false ∧ inL l FORMATTING = false ∧ rawOf l true = 1 := by
  unfold off at h
  simpa [and_assoc] using h
theorem point_on (l : List UInt8) : pointOf 2 l = inL l POINT := by unfold pointOf; simp

theorem classes (l : List UInt8) :
    (inL l BLOCK = true ∧ specialOf 1 l = true ∧ inL l IMPLIED = false ∧ pointOf 2 l = false ∧ inL l FORMATTING = false ∧ rawOf l true = 1) ∨
    (inL l BLOCK = false ∧ inL l HEADING = true ∧ specialOf 1 l = true ∧ inL l IMPLIED = false ∧ pointOf 2 l = false ∧ inL l FORMATTING = false ∧ rawOf l true = 1) ∨
    (inL l BLOCK = false ∧ inL l HEADING = false ∧ inL l VOID = true ∧ specialOf 1 l = true ∧ inL l IMPLIED = false ∧ pointOf 2 l = false ∧ inL l FORMATTING = false ∧ rawOf l true = 1) ∨
    (inL l BLOCK = false ∧ inL l HEADING = false ∧ inL l VOID = false ∧ inL l IMPLIED = true ∧ inL l (THOROUGH ++ IMPLIED) = true ∧ pointOf 2 l = false ∧ inL l FORMATTING = false ∧ rawOf l true = 1) ∨
    (inL l BLOCK = false ∧ inL l HEADING = false ∧ inL l VOID = false ∧ inL l IMPLIED = false ∧ pointOf 2 l = true ∧ boundOf 2 l = true ∧ specialOf 2 l = true ∧ inL l FORMATTING = false) ∨
    (inL l BLOCK = false ∧ inL l HEADING = false ∧ inL l VOID = false ∧ inL l IMPLIED = false ∧ pointOf 2 l = false ∧ inL l FORMATTING = true ∧ specialOf 1 l = false ∧ rawOf l true = 1) ∨
    (inL l BLOCK = false ∧ inL l HEADING = false ∧ inL l VOID = false ∧ inL l IMPLIED = false ∧ pointOf 2 l = false ∧ inL l FORMATTING = false) := by
  have hs : specialOf 1 l = (inL l SPECIAL || (inL l BLOCK || (inL l HEADING || inL l VOID))) := rfl
  cases hB : inL l BLOCK with
  | true =>
    obtain ⟨h1, h2, h3, h4⟩ := off_parts (block_off l ((inL_mem l _).1 hB))
    exact .inl ⟨rfl, by rw [hs, hB]; simp, h1, h2, h3, h4⟩
  | false =>
  cases hH : inL l HEADING with
  | true =>
    obtain ⟨h1, h2, h3, h4⟩ := off_parts (heading_off l ((inL_mem l _).1 hH))
    exact .inr (.inl ⟨rfl, rfl, by rw [hs, hH]; simp, h1, h2, h3, h4⟩)
  | false =>
  cases hV : inL l VOID with
  | true =>
    obtain ⟨h1, h2, h3, h4⟩ := off_parts (void_off l ((inL_mem l _).1 hV))
    exact .inr (.inr (.inl ⟨rfl, rfl, rfl, by rw [hs, hV]; simp, h1, h2, h3, h4⟩))
  | false =>
  cases hI : inL l IMPLIED with
  | true =>
    have := implied_off l ((inL_mem l _).1 hI)
    simp only [Bool.and_eq_true, Bool.not_eq_true', beq_iff_eq] at this
    exact .inr (.inr (.inr (.inl ⟨rfl, rfl, rfl, rfl, this.2, this.1.1.1, this.1.1.2, this.1.2⟩)))
  | false =>
  cases hP : pointOf 2 l with
  | true =>
    have hm := hP
    rw [point_on] at hm
    exact .inr (.inr (.inr (.inr (.inl ⟨rfl, rfl, rfl, rfl, rfl, hP, hP, point_formatting l ((inL_mem l _).1 hm)⟩))))
  | false =>
  cases hF : inL l FORMATTING with
  | true =>
    have := formatting_off l ((inL_mem l _).1 hF)
    simp only [Bool.and_eq_true, Bool.not_eq_true', beq_iff_eq] at this
    exact .inr (.inr (.inr (.inr (.inr (.inl ⟨rfl, rfl, rfl, rfl, rfl, rfl, this.1, this.2⟩)))))
  | false => exact .inr (.inr (.inr (.inr (.inr (.inr ⟨rfl, rfl, rfl, rfl, rfl, rfl⟩)))))

theorem fix_any (s : ByteArray) (L : List (List UInt8 × ByteArray)) (P : ByteArray → Prop) (h0 : P s) (h : ∀ p ∈ L, P p.2) : P (fixIn s L) := by
  induction L with
  | nil => exact h0
  | cons a L ih =>
    unfold fixIn
    rw [List.foldr_cons]
    by_cases c : s.toList = a.1
    · rw [if_pos c]; exact h a List.mem_cons_self
    · rw [if_neg c]; exact ih (fun p hp => h p (List.mem_cons_of_mem _ hp))
/-- What is fixed is either the text itself, untouched, or a name that stays. -/
theorem fix_cases (s : ByteArray) : ∀ L : List (List UInt8 × ByteArray), (fixIn s L = s ∧ ∀ p ∈ L, s.toList ≠ p.1) ∨ ∃ p ∈ L, fixIn s L = p.2
  | [] => .inl ⟨rfl, fun p hp => by cases hp⟩
  | a :: L => by
    unfold fixIn
    rw [List.foldr_cons]
    by_cases c : s.toList = a.1
    · rw [if_pos c]; exact .inr ⟨a, List.mem_cons_self, rfl⟩
    · rw [if_neg c]
      rcases fix_cases s L with ⟨h1, h2⟩ | ⟨p, hp, h⟩
      · refine .inl ⟨h1, fun p hp => ?_⟩
        rcases List.mem_cons.1 hp with rfl | hp
        · exact c
        · exact h2 p hp
      · exact .inr ⟨p, List.mem_cons_of_mem _ hp, h⟩
theorem fix_stays : ∀ p ∈ FIX, fixIn p.2 FIX = p.2 := by decide +kernel
theorem fix_twice (s : ByteArray) : fixOf (fixOf s) = fixOf s := by
  unfold fixOf
  rcases fix_cases s FIX with ⟨h1, _⟩ | ⟨p, hp, h⟩
  · rw [h1, h1]
  · rw [h]; exact fix_stays p hp

set_option maxHeartbeats 4000000 in
set_option maxRecDepth 100000 in
theorem lawKinds (s : ByteArray) (m : Int) (w : World) : Calls Try.prog 4 #[.string s, .int .i64 m] w fun e w' => e = .returned (.bool true) ∧ Below w.heap.size w w' := by
  obtain ⟨hd, hh, hhead⟩ := head_gen s 30 (by omega)
  obtain ⟨nm, hx, hn⟩ := names_gen m
  have HH := hide hhead
  have HN := hide hn
  clear hhead hn hh hx
  have HB0 := hide (Below.refl w.heap.size w)
  go_enter Try.func4, Try.ntmps4
  go_wp2_with (first
    | (go_at_call 8; (with_reducible refine (arbourkeep_Head.calls s 30 hd _ HH.out).mono ?_); rintro e w3 ⟨rfl, hb3⟩; have HB3 := hide (below_step HB0.out (below_drawn hb3)); clear HB0 hb3; have HB0 := HB3; clear HB3; dsimp only)
    | (go_at_call 7; (with_reducible refine (arbourkeep_Names.calls m nm _ HN.out).mono ?_); rintro e w3 ⟨rfl, hb3⟩; have HB3 := hide (below_step HB0.out hb3); clear HB0 hb3; have HB0 := HB3; clear HB3; obtain ⟨wo, rfl⟩ : ∃ wo : World, wo = w3 := ⟨_, rfl⟩; dsimp only))
  go_loopw [13] (fun i wr => ∃ k : Nat, k ≤ 2 ∧ i = .int .i64 k ∧ Aside0 (Below (wo.heap.size + 1) (wo.alloc (.cells #[.string hd, .string nm] 9)) wr)) (fun i _ => 2 - (intOf i).toNat)
  case atStart => exact ⟨0, by omega, rfl, ⟨Below.refl _ _⟩⟩
  case round =>
    obtain ⟨k, hk, rfl, HT⟩ := hrel
    by_cases hlt : k < 2
    · have hc : wr.cell? ⟨wo.heap.size, k, none⟩ = some (.string (if k = 0 then hd else nm)) := by
        rw [HT.out.cell (p := ⟨wo.heap.size, k, none⟩) (Nat.lt_succ_self _), cell_of_row _ _ k _ 9 (0, 0) (heap_alloc_new _ _)]
        rcases (show k = 0 ∨ k = 1 by omega) with rfl | rfl <;> rfl
      generalize (if k = 0 then hd else nm) = x at hc
      have g3 : (k : Int) < 2 := by omega
      have hle : wo.heap.size + 1 ≤ wr.heap.size := by have := HT.out.size; simpa using this
      have HLE := hide hle
      clear hle
      have hcls := classes x.toList
      obtain ⟨bB, hB⟩ : ∃ b, inL x.toList BLOCK = b := ⟨_, rfl⟩
      obtain ⟨bH, hH⟩ : ∃ b, inL x.toList HEADING = b := ⟨_, rfl⟩
      obtain ⟨bV, hV⟩ : ∃ b, inL x.toList VOID = b := ⟨_, rfl⟩
      obtain ⟨bI, hI⟩ : ∃ b, inL x.toList IMPLIED = b := ⟨_, rfl⟩
      obtain ⟨bT, hT⟩ : ∃ b, inL x.toList (THOROUGH ++ IMPLIED) = b := ⟨_, rfl⟩
      obtain ⟨bF, hF⟩ : ∃ b, inL x.toList FORMATTING = b := ⟨_, rfl⟩
      obtain ⟨bS, hS⟩ : ∃ b, specialOf 1 x.toList = b := ⟨_, rfl⟩
      obtain ⟨bS2, hS2⟩ : ∃ b, specialOf 2 x.toList = b := ⟨_, rfl⟩
      obtain ⟨bP, hP⟩ : ∃ b, pointOf 2 x.toList = b := ⟨_, rfl⟩
      obtain ⟨bD, hD⟩ : ∃ b, boundOf 2 x.toList = b := ⟨_, rfl⟩
      obtain ⟨r, hr⟩ : ∃ b, rawOf x.toList true = b := ⟨_, rfl⟩
      obtain ⟨y, hy⟩ : ∃ b, fixOf x = b := ⟨_, rfl⟩
      have hyy := fix_twice x
      rw [hy] at hyy
      have hP1 := point_off x.toList
      rw [hB, hH, hV, hI, hT, hF, hS, hS2, hP, hD, hr] at hcls
      have GB := hide hB
      have GH := hide hH
      have GV := hide hV
      have GI := hide hI
      have GT := hide hT
      have GF := hide hF
      have GS := hide hS
      have GS2 := hide hS2
      have GP := hide hP
      have GP1 := hide hP1
      have GD := hide hD
      have GR := hide hr
      have GY := hide hy
      have GYY := hide hyy
      clear hB hH hV hI hT hF hS hS2 hP hP1 hD hr hy hyy
      have HQ := hide (Below.refl wr.heap.size wr)
      by_cases hr1 : r = 1
      · have q1 : (r != 1) = false := by subst hr1; rfl
        clear hr1
        rcases hcls with ⟨rfl, rfl, rfl, rfl, rfl, _⟩ | ⟨rfl, rfl, rfl, rfl, rfl, rfl, _⟩ | ⟨rfl, rfl, rfl, rfl, rfl, rfl, rfl, _⟩ | ⟨rfl, rfl, rfl, rfl, rfl, rfl, rfl, _⟩ | ⟨rfl, rfl, rfl, rfl, rfl, rfl, rfl, rfl⟩ | ⟨rfl, rfl, rfl, rfl, rfl, rfl, rfl, _⟩ | ⟨rfl, rfl, rfl, rfl, rfl, rfl⟩
        all_goals
          go_wp2_with (first
            | (go_at_call 11; (with_reducible refine (pBlock x _ GB.out _).mono ?_); rintro e w3 ⟨rfl, hb3⟩; have HB3 := hide (below_step HQ.out hb3); clear HQ hb3; have HQ := HB3; clear HB3; dsimp only)
            | (go_at_call 12; (with_reducible refine (pHeading x _ GH.out _).mono ?_); rintro e w3 ⟨rfl, hb3⟩; have HB3 := hide (below_step HQ.out hb3); clear HQ hb3; have HQ := HB3; clear HB3; dsimp only)
            | (go_at_call 13; (with_reducible refine (pVoid x _ GV.out _).mono ?_); rintro e w3 ⟨rfl, hb3⟩; have HB3 := hide (below_step HQ.out hb3); clear HQ hb3; have HQ := HB3; clear HB3; dsimp only)
            | (go_at_call 15; (with_reducible refine (pImplied x _ GI.out _).mono ?_); rintro e w3 ⟨rfl, hb3⟩; have HB3 := hide (below_step HQ.out hb3); clear HQ hb3; have HQ := HB3; clear HB3; dsimp only)
            | (go_at_call 16; (with_reducible refine (pThorough x _ GT.out _).mono ?_); rintro e w3 ⟨rfl, hb3⟩; have HB3 := hide (below_step HQ.out hb3); clear HQ hb3; have HQ := HB3; clear HB3; dsimp only)
            | (go_at_call 18; (with_reducible refine (pBound 2 x _ GD.out _).mono ?_); rintro e w3 ⟨rfl, hb3⟩; have HB3 := hide (below_step HQ.out hb3); clear HQ hb3; have HQ := HB3; clear HB3; dsimp only)
            | (go_at_call 9; (with_reducible refine (pRaw x true _ GR.out _).mono ?_); rintro e w3 ⟨rfl, hb3⟩; have HB3 := hide (below_step HQ.out hb3); clear HQ hb3; have HQ := HB3; clear HB3; dsimp only)
            | (go_at_call 20; (with_reducible refine (pFormatting x _ GF.out _).mono ?_); rintro e w3 ⟨rfl, hb3⟩; have HB3 := hide (below_step HQ.out hb3); clear HQ hb3; have HQ := HB3; clear HB3; dsimp only)
            | (go_at_call 14; (first | (with_reducible refine (pSpecial 1 x _ GS.out _).mono ?_) | (with_reducible refine (pSpecial 2 x _ GS2.out _).mono ?_)); rintro e w3 ⟨rfl, hb3⟩; have HB3 := hide (below_step HQ.out hb3); clear HQ hb3; have HQ := HB3; clear HB3; dsimp only)
            | (go_at_call 17; (first | (with_reducible refine (pPoint 1 x _ GP1.out _).mono ?_) | (with_reducible refine (pPoint 2 x _ GP.out _).mono ?_)); rintro e w3 ⟨rfl, hb3⟩; have HB3 := hide (below_step HQ.out hb3); clear HQ hb3; have HQ := HB3; clear HB3; dsimp only)
            | (go_at_call 19; (first | (with_reducible refine (pFix x y GY.out _).mono ?_) | (with_reducible refine (pFix y y GYY.out _).mono ?_)); rintro e w3 ⟨rfl, hb3⟩; have HB3 := hide (below_step HQ.out hb3); clear HQ hb3; have HQ := HB3; clear HB3; dsimp only))
          go_roundw
          case rel => exact ⟨k + 1, by omega, by go_num, ⟨HT.out.trans (HQ.out.mono HLE.out)⟩⟩
          case measure => simp only [intOf]; omega
      · have q1 : (r != 1) = true := bne_iff_ne.2 hr1
        rcases hcls with ⟨rfl, rfl, rfl, rfl, rfl, h⟩ | ⟨rfl, rfl, rfl, rfl, rfl, rfl, h⟩ | ⟨rfl, rfl, rfl, rfl, rfl, rfl, rfl, h⟩ | ⟨rfl, rfl, rfl, rfl, rfl, rfl, rfl, h⟩ | ⟨rfl, rfl, rfl, rfl, rfl, rfl, rfl, rfl⟩ | ⟨rfl, rfl, rfl, rfl, rfl, rfl, rfl, h⟩ | ⟨rfl, rfl, rfl, rfl, rfl, rfl⟩
        all_goals try exact absurd h hr1
        all_goals
          clear hr1
          go_wp2_with (first
            | (go_at_call 11; (with_reducible refine (pBlock x _ GB.out _).mono ?_); rintro e w3 ⟨rfl, hb3⟩; have HB3 := hide (below_step HQ.out hb3); clear HQ hb3; have HQ := HB3; clear HB3; dsimp only)
            | (go_at_call 12; (with_reducible refine (pHeading x _ GH.out _).mono ?_); rintro e w3 ⟨rfl, hb3⟩; have HB3 := hide (below_step HQ.out hb3); clear HQ hb3; have HQ := HB3; clear HB3; dsimp only)
            | (go_at_call 13; (with_reducible refine (pVoid x _ GV.out _).mono ?_); rintro e w3 ⟨rfl, hb3⟩; have HB3 := hide (below_step HQ.out hb3); clear HQ hb3; have HQ := HB3; clear HB3; dsimp only)
            | (go_at_call 15; (with_reducible refine (pImplied x _ GI.out _).mono ?_); rintro e w3 ⟨rfl, hb3⟩; have HB3 := hide (below_step HQ.out hb3); clear HQ hb3; have HQ := HB3; clear HB3; dsimp only)
            | (go_at_call 16; (with_reducible refine (pThorough x _ GT.out _).mono ?_); rintro e w3 ⟨rfl, hb3⟩; have HB3 := hide (below_step HQ.out hb3); clear HQ hb3; have HQ := HB3; clear HB3; dsimp only)
            | (go_at_call 18; (with_reducible refine (pBound 2 x _ GD.out _).mono ?_); rintro e w3 ⟨rfl, hb3⟩; have HB3 := hide (below_step HQ.out hb3); clear HQ hb3; have HQ := HB3; clear HB3; dsimp only)
            | (go_at_call 9; (with_reducible refine (pRaw x true _ GR.out _).mono ?_); rintro e w3 ⟨rfl, hb3⟩; have HB3 := hide (below_step HQ.out hb3); clear HQ hb3; have HQ := HB3; clear HB3; dsimp only)
            | (go_at_call 20; (with_reducible refine (pFormatting x _ GF.out _).mono ?_); rintro e w3 ⟨rfl, hb3⟩; have HB3 := hide (below_step HQ.out hb3); clear HQ hb3; have HQ := HB3; clear HB3; dsimp only)
            | (go_at_call 14; (first | (with_reducible refine (pSpecial 1 x _ GS.out _).mono ?_) | (with_reducible refine (pSpecial 2 x _ GS2.out _).mono ?_)); rintro e w3 ⟨rfl, hb3⟩; have HB3 := hide (below_step HQ.out hb3); clear HQ hb3; have HQ := HB3; clear HB3; dsimp only)
            | (go_at_call 17; (first | (with_reducible refine (pPoint 1 x _ GP1.out _).mono ?_) | (with_reducible refine (pPoint 2 x _ GP.out _).mono ?_)); rintro e w3 ⟨rfl, hb3⟩; have HB3 := hide (below_step HQ.out hb3); clear HQ hb3; have HQ := HB3; clear HB3; dsimp only)
            | (go_at_call 19; (first | (with_reducible refine (pFix x y GY.out _).mono ?_) | (with_reducible refine (pFix y y GYY.out _).mono ?_)); rintro e w3 ⟨rfl, hb3⟩; have HB3 := hide (below_step HQ.out hb3); clear HQ hb3; have HQ := HB3; clear HB3; dsimp only))
          go_roundw
          case rel => exact ⟨k + 1, by omega, by go_num, ⟨HT.out.trans (HQ.out.mono HLE.out)⟩⟩
          case measure => simp only [intOf]; omega
    · go_wp2_with (go_at_call 10; (refine (known _).mono ?_); rintro e w6 ⟨rfl, hb6⟩; have HB6 := hide hb6; clear hb6; dsimp only)
      go_ret
      exact ⟨rfl, below_step (below_step HB0.out ((below_alloc (Below.refl _ _) _).trans (HT.out.mono (by omega)))) HB6.out⟩
end Go.Proofs.Ytcjbfhnhkohbbaa.Plain
