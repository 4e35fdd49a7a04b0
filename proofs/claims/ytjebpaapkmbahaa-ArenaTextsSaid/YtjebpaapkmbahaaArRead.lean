/- The arena's calls that only read: is, kind, holds, fixed, below, may, ahead, Len, Parent, Content, Quirky; and Quirks. -/
import Derived.Test.YtjebpaapkmbahaaArBase
import Derived.Deep.LoopGhost
namespace Go.Proofs.Ytjebpaapkmbahaa.Ar
open Go.RowKit Go.Proofs.Ytjebpaapkmbahaa.PArenaPlays Go.Proofs.YtjebpaapkmbahaaW.PrintWords Go.Proofs.YtjebpaapkmbahaaW.PrintLast
set_option linter.unusedVariables false
set_option linter.unusedSimpArgs false
theorem is_yes {w : World} {N g gl cap : Nat} {l : List S72} {q : Bool} (h : AO w N g gl cap l q) (n : Nat) (hn : n < l.length) :
    Calls Try.prog 42 #[.pointer (some ⟨g, 0, none⟩), .int .i64 (n : Int)] w fun e w' => e = .returned (.bool true) ∧ w = w' := by
  have c0 := h.c0
  have hn' : decide (n < l.length) = true := decide_eq_true hn
  have hn1 : (n : Int) < (l.length : Int) := by omega
  clear h
  go_enter Try.func42, Try.ntmps42
  go_wp2
  go_ret
  exact ⟨rfl, rfl⟩
theorem is_no {w : World} {N g gl cap : Nat} {l : List S72} {q : Bool} (h : AO w N g gl cap l q) (n : Int) (hn : ¬ (0 ≤ n ∧ n < (l.length : Int))) :
    Calls Try.prog 42 #[.pointer (some ⟨g, 0, none⟩), .int .i64 n] w fun e w' => e = .returned (.bool false) ∧ w = w' := by
  have c0 := h.c0
  clear h
  by_cases h0 : 0 ≤ n
  · have h1 : decide (0 ≤ n) = true := decide_eq_true h0
    have h2 : decide (n < (l.length : Int)) = false := decide_eq_false (fun h => hn ⟨h0, h⟩)
    clear hn
    go_enter Try.func42, Try.ntmps42
    go_wp2
    go_ret
    exact ⟨rfl, rfl⟩
  · have h1 : decide (0 ≤ n) = false := decide_eq_false h0
    clear hn
    go_enter Try.func42, Try.ntmps42
    go_wp2
    go_ret
    exact ⟨rfl, rfl⟩
theorem kind {w : World} {N g gl cap : Nat} {l : List S72} {q : Bool} (h : AO w N g gl cap l q) (n : Nat) (hn : n < l.length) {k : Int} (hk : (nd l n).f0.f0 = k) :
    Calls Try.prog 46 #[.pointer (some ⟨g, 0, none⟩), .int .i64 (n : Int)] w fun e w' => e = .returned (.int .i64 k) ∧ w = w' := by
  obtain ⟨v3, v5, hN, _, _⟩ := h.elem n hn
  have c0 := h.c0
  have x0 := hN.c0
  rw [hk] at x0
  have hn1 : (n : Int) < (l.length : Int) := by omega
  clear h hN hk
  go_enter Try.func46, Try.ntmps46
  go_wp2
  go_ret
  exact ⟨rfl, rfl⟩
/-- May it have kids? -/
def holdK (k : Int) : Bool := k == 1 || k == 3 || k == 6
/-- Does it stay where it is? -/
def fixK (k : Int) : Bool := k == 1 || k == 6
theorem holds {w : World} {N g gl cap : Nat} {l : List S72} {q : Bool} (h : AO w N g gl cap l q) (n : Nat) (hn : n < l.length) {k : Int} (hk : (nd l n).f0.f0 = k) {b : Bool} (hb : holdK k = b) :
    Calls Try.prog 43 #[.pointer (some ⟨g, 0, none⟩), .int .i64 (n : Int)] w fun e w' => e = .returned (.bool b) ∧ w = w' := by
  have HK := hide (kind h n hn hk)
  clear h hn hk
  unfold holdK at hb
  cases e1 : (k == 1) with
  | true =>
    rw [e1] at hb
    simp at hb
    subst hb
    go_enter Try.func43, Try.ntmps43
    go_wp2_with (go_at_call 46; (with_reducible refine HK.out.mono ?_); rintro e w' ⟨rfl, rfl⟩)
    go_ret
    exact ⟨rfl, rfl⟩
  | false =>
    cases e3 : (k == 3) with
    | true =>
      rw [e1, e3] at hb
      simp at hb
      subst hb
      go_enter Try.func43, Try.ntmps43
      go_wp2_with (go_at_call 46; (with_reducible refine HK.out.mono ?_); rintro e w' ⟨rfl, rfl⟩)
      go_ret
      exact ⟨rfl, rfl⟩
    | false =>
      rw [e1, e3] at hb
      simp only [Bool.false_or] at hb
      go_enter Try.func43, Try.ntmps43
      go_wp2_with (go_at_call 46; (with_reducible refine HK.out.mono ?_); rintro e w' ⟨rfl, rfl⟩)
      go_ret
      exact ⟨rfl, rfl⟩
theorem fixed {w : World} {N g gl cap : Nat} {l : List S72} {q : Bool} (h : AO w N g gl cap l q) (n : Nat) (hn : n < l.length) {k : Int} (hk : (nd l n).f0.f0 = k) {b : Bool} (hb : fixK k = b) :
    Calls Try.prog 44 #[.pointer (some ⟨g, 0, none⟩), .int .i64 (n : Int)] w fun e w' => e = .returned (.bool b) ∧ w = w' := by
  have HK := hide (kind h n hn hk)
  clear h hn hk
  unfold fixK at hb
  cases e1 : (k == 1) with
  | true =>
    rw [e1] at hb
    simp at hb
    subst hb
    go_enter Try.func44, Try.ntmps44
    go_wp2_with (go_at_call 46; (with_reducible refine HK.out.mono ?_); rintro e w' ⟨rfl, rfl⟩)
    go_ret
    exact ⟨rfl, rfl⟩
  | false =>
    rw [e1] at hb
    simp only [Bool.false_or] at hb
    go_enter Try.func44, Try.ntmps44
    go_wp2_with (go_at_call 46; (with_reducible refine HK.out.mono ?_); rintro e w' ⟨rfl, rfl⟩)
    go_ret
    exact ⟨rfl, rfl⟩
/-- The way up from a node. -/
inductive Up (l : List S72) : Int → List Nat → Prop
  | nil : Up l (-1) []
  | cons {n : Nat} {xs : List Nat} (hn : n < l.length) (t : Up l (nd l n).f1 xs) : Up l (n : Int) (n :: xs)
theorem below {w : World} {N g gl cap : Nat} {l : List S72} {q : Bool} (h : AO w N g gl cap l q) (n : Int) (of : Nat) {xs : List Nat} (hu : Up l n xs) {b : Bool} (hb : xs.contains of = b) :
    Calls Try.prog 71 #[.pointer (some ⟨g, 0, none⟩), .int .i64 n, .int .i64 (of : Int)] w fun e w' => e = .returned (.bool b) ∧ w = w' := by
  have HO := hide h
  have c0 := h.c0
  have HU := hide hu
  have HB := hide hb
  clear h hu hb
  go_enter Try.func71, Try.ntmps71
  go_wp2
  go_loopg [1] xs.length (fun kq v w' => ∃ (m : Int) (ys : List Nat), v = .int .i64 m ∧ w = w' ∧ Aside0 (ys.length = kq) ∧ Aside0 (Up l m ys) ∧ Aside0 (ys.contains of = b))
  case atStart => exact ⟨n, xs, rfl, rfl, ⟨rfl⟩, ⟨HU.out⟩, ⟨HB.out⟩⟩
  case round =>
    clear HU HB
    obtain ⟨m, ys, rfl, rfl, hk, hu, hb⟩ := hrel
    have HB := hide hb.out
    have HK := hide hk.out
    have hu' := hu.out
    clear hb hk hu
    cases hu' with
    | nil =>
      have hbf : b = false := by rw [← HB.out]; rfl
      have HBF := hide hbf
      have e1 : ((-1 : Int) == (of : Int)) = false := by rw [beq_eq_false_iff_ne]; omega
      clear hbf
      go_wp2
      go_ret
      rw [HBF.out]
      first | exact ⟨rfl, rfl⟩ | exact ⟨by rw [e1], rfl⟩
    | @cons m ys hm t =>
      have e1 : ((m : Int) == -1) = false := by rw [beq_eq_false_iff_ne]; omega
      have e2 : ((m : Int) != -1) = true := by rw [bne_iff_ne]; omega
      by_cases ho : m = of
      · subst ho
        have hbt : b = true := by rw [← HB.out]; simp
        have HBT := hide hbt
        clear hbt
        go_wp2
        go_ret
        rw [HBT.out]
        first | exact ⟨rfl, rfl⟩ | exact ⟨by simp, rfl⟩
      · have o1 : ((m : Int) == (of : Int)) = false := by rw [beq_eq_false_iff_ne]; omega
        have o2 : ((m : Int) != (of : Int)) = true := by rw [bne_iff_ne]; omega
        obtain ⟨v3, v5, hN, _, _⟩ := HO.out.elem m hm
        have x6 := hN.c6
        obtain ⟨u, hu⟩ : ∃ u, (nd l m).f1 = u := ⟨_, rfl⟩
        rw [hu] at x6 t
        have HT := hide t
        have hm1 : (m : Int) < (l.length : Int) := by omega
        have HB2 := hide (show ys.contains of = b by rw [← HB.out, List.contains_cons, beq_eq_false_iff_ne.2 (fun e => ho e.symm), Bool.false_or])
        clear hN hu t ho hm HB
        go_wp2
        go_roundg ys.length
        case measure => have := HK.out; simp at this; omega
        case rel => exact ⟨u, ys, rfl, rfl, ⟨rfl⟩, ⟨HT.out⟩, ⟨HB2.out⟩⟩
/-- Why a node may not be put under a parent. -/
def mayL (l : List S72) (n : Nat) (xs : List Nat) : Int := if (nd l n).f1 = -1 then (if xs.contains n then 26 else 0) else 24
theorem may {w : World} {N g gl cap : Nat} {l : List S72} {q : Bool} (h : AO w N g gl cap l q) (up n : Nat) (hn : n < l.length) {xs : List Nat} (hu : Up l (up : Int) xs) {r : Int} (hr : mayL l n xs = r) :
    Calls Try.prog 45 #[.pointer (some ⟨g, 0, none⟩), .int .i64 (up : Int), .int .i64 (n : Int)] w fun e w' => e = .returned (.int .i64 r) ∧ w = w' := by
  obtain ⟨b, hb⟩ : ∃ b, xs.contains n = b := ⟨_, rfl⟩
  have HB := hide (below h (up : Int) n hu hb)
  obtain ⟨v3, v5, hN, _, _⟩ := h.elem n hn
  have c0 := h.c0
  have x6 := hN.c6
  obtain ⟨u, hu'⟩ : ∃ u, (nd l n).f1 = u := ⟨_, rfl⟩
  unfold mayL at hr
  rw [hu', hb] at hr
  rw [hu'] at x6
  have hn1 : (n : Int) < (l.length : Int) := by omega
  clear h hN hu hu' hb hn
  by_cases e : u = -1
  · rw [if_pos e] at hr
    subst e
    cases b with
    | true =>
      rw [if_pos rfl] at hr
      subst hr
      go_enter Try.func45, Try.ntmps45
      go_wp2_with (go_at_call 71; (with_reducible refine HB.out.mono ?_); rintro e w' ⟨rfl, rfl⟩)
      go_ret
      exact ⟨rfl, rfl⟩
    | false =>
      rw [if_neg (by decide)] at hr
      subst hr
      go_enter Try.func45, Try.ntmps45
      go_wp2_with (go_at_call 71; (with_reducible refine HB.out.mono ?_); rintro e w' ⟨rfl, rfl⟩)
      go_ret
      exact ⟨rfl, rfl⟩
  · rw [if_neg e] at hr
    subst hr
    have e1 : (u == -1) = false := by rw [beq_eq_false_iff_ne]; exact e
    have e2 : (u != -1) = true := by rw [bne_iff_ne]; exact e
    clear e
    go_enter Try.func45, Try.ntmps45
    go_wp2
    go_ret
    exact ⟨rfl, rfl⟩
/-- Why nothing may be put ahead of a node. -/
def aheadL (l : List S72) (n : Nat) : Int := if fixK (nd l n).f0.f0 then 23 else if (nd l n).f1 = -1 then 23 else 0
theorem ahead {w : World} {N g gl cap : Nat} {l : List S72} {q : Bool} (h : AO w N g gl cap l q) (n : Nat) (hn : n < l.length) {r : Int} (hr : aheadL l n = r) :
    Calls Try.prog 69 #[.pointer (some ⟨g, 0, none⟩), .int .i64 (n : Int)] w fun e w' => e = .returned (.int .i64 r) ∧ w = w' := by
  obtain ⟨b, hb⟩ : ∃ b, fixK (nd l n).f0.f0 = b := ⟨_, rfl⟩
  have HF := hide (fixed h n hn rfl hb)
  have HI := hide (is_yes h n hn)
  obtain ⟨v3, v5, hN, _, _⟩ := h.elem n hn
  have c0 := h.c0
  have x6 := hN.c6
  obtain ⟨u, hu'⟩ : ∃ u, (nd l n).f1 = u := ⟨_, rfl⟩
  unfold aheadL at hr
  rw [hu', hb] at hr
  rw [hu'] at x6
  have hn1 : (n : Int) < (l.length : Int) := by omega
  clear h hN hu' hb hn
  cases b with
  | true =>
    rw [if_pos rfl] at hr
    subst hr
    go_enter Try.func69, Try.ntmps69
    go_wp2_with (first | (go_at_call 42; (with_reducible refine HI.out.mono ?_); rintro e w' ⟨rfl, rfl⟩) | (go_at_call 44; (with_reducible refine HF.out.mono ?_); rintro e w' ⟨rfl, rfl⟩))
    go_ret
    exact ⟨rfl, rfl⟩
  | false =>
    rw [if_neg (by decide)] at hr
    by_cases e : u = -1
    · rw [if_pos e] at hr
      subst hr
      subst e
      go_enter Try.func69, Try.ntmps69
      go_wp2_with (first | (go_at_call 42; (with_reducible refine HI.out.mono ?_); rintro e w' ⟨rfl, rfl⟩) | (go_at_call 44; (with_reducible refine HF.out.mono ?_); rintro e w' ⟨rfl, rfl⟩))
      go_ret
      exact ⟨rfl, rfl⟩
    · rw [if_neg e] at hr
      subst hr
      have e1 : (u == -1) = false := by rw [beq_eq_false_iff_ne]; exact e
      have e2 : (u != -1) = true := by rw [bne_iff_ne]; exact e
      clear e
      go_enter Try.func69, Try.ntmps69
      go_wp2_with (first | (go_at_call 42; (with_reducible refine HI.out.mono ?_); rintro e w' ⟨rfl, rfl⟩) | (go_at_call 44; (with_reducible refine HF.out.mono ?_); rintro e w' ⟨rfl, rfl⟩))
      go_ret
      exact ⟨rfl, rfl⟩
theorem ahead_no {w : World} {N g gl cap : Nat} {l : List S72} {q : Bool} (h : AO w N g gl cap l q) (n : Int) (hn : ¬ (0 ≤ n ∧ n < (l.length : Int))) :
    Calls Try.prog 69 #[.pointer (some ⟨g, 0, none⟩), .int .i64 n] w fun e w' => e = .returned (.int .i64 22) ∧ w = w' := by
  have HI := hide (is_no h n hn)
  clear h hn
  go_enter Try.func69, Try.ntmps69
  go_wp2_with (go_at_call 42; (with_reducible refine HI.out.mono ?_); rintro e w' ⟨rfl, rfl⟩)
  go_ret
  exact ⟨rfl, rfl⟩
theorem len_ {w : World} {N g gl cap : Nat} {l : List S72} {q : Bool} (h : AO w N g gl cap l q) :
    Calls Try.prog 20 #[.pointer (some ⟨g, 0, none⟩)] w fun e w' => e = .returned (.int .i64 (l.length : Int)) ∧ w = w' := by
  have c0 := h.c0
  clear h
  go_enter Try.func20, Try.ntmps20
  go_wp2
  go_ret
  exact ⟨rfl, rfl⟩
theorem quirky {w : World} {N g gl cap : Nat} {l : List S72} {q : Bool} (h : AO w N g gl cap l q) :
    Calls Try.prog 59 #[.pointer (some ⟨g, 0, none⟩)] w fun e w' => e = .returned (.bool q) ∧ w = w' := by
  have c1 := h.c1
  clear h
  go_enter Try.func59, Try.ntmps59
  go_wp2
  go_ret
  exact ⟨rfl, rfl⟩
theorem quirks {w : World} {N g gl cap : Nat} {l : List S72} {q : Bool} (h : AO w N g gl cap l q) (p : Bool) (hN : N ≤ w.heap.size) :
    Calls Try.prog 58 #[.pointer (some ⟨g, 0, none⟩), .bool p] w fun e w' => e = .returned (.tuple #[]) ∧ AO w' N g gl cap l p ∧ Fr N TA w w' := by
  have c1 := h.c1
  have f1 := blk_frozen h.box 1
  have HO := hide h
  clear h
  go_enter Try.func58, Try.ntmps58
  go_wp2
  go_end0
  have h := HO.out
  exact ⟨rfl, ⟨blk_set h.box 1 (.bool p), h.hg, Kd.R_set h.row h.box (by decide) 1 (.bool p)⟩, (Fr.refl N TA w).set h.box (.inl rfl) h.hg 1 (.bool p)⟩
theorem parent_no {w : World} {N g gl cap : Nat} {l : List S72} {q : Bool} (h : AO w N g gl cap l q) (n : Int) (hn : ¬ (0 ≤ n ∧ n < (l.length : Int))) :
    Calls Try.prog 22 #[.pointer (some ⟨g, 0, none⟩), .int .i64 n] w fun e w' => e = .returned (.tuple #[.int .i64 0, .bool false]) ∧ w = w' := by
  have HI := hide (is_no h n hn)
  clear h hn
  go_enter Try.func22, Try.ntmps22
  go_wp2_with (go_at_call 42; (with_reducible refine HI.out.mono ?_); rintro e w' ⟨rfl, rfl⟩)
  go_ret2
  exact ⟨rfl, rfl⟩
theorem parent {w : World} {N g gl cap : Nat} {l : List S72} {q : Bool} (h : AO w N g gl cap l q) (n : Nat) (hn : n < l.length) {u : Int} (hu : (nd l n).f1 = u) :
    Calls Try.prog 22 #[.pointer (some ⟨g, 0, none⟩), .int .i64 (n : Int)] w fun e w' => e = .returned (.tuple (if u = -1 then #[.int .i64 0, .bool false] else #[.int .i64 u, .bool true])) ∧ w = w' := by
  have HI := hide (is_yes h n hn)
  obtain ⟨v3, v5, hN, _, _⟩ := h.elem n hn
  have c0 := h.c0
  have x6 := hN.c6
  rw [hu] at x6
  have hn1 : (n : Int) < (l.length : Int) := by omega
  clear h hN hu hn
  by_cases e : u = -1
  · rw [if_pos e]
    subst e
    go_enter Try.func22, Try.ntmps22
    go_wp2_with (go_at_call 42; (with_reducible refine HI.out.mono ?_); rintro e w' ⟨rfl, rfl⟩)
    go_ret2
    exact ⟨rfl, rfl⟩
  · rw [if_neg e]
    have e1 : (u == -1) = false := by rw [beq_eq_false_iff_ne]; exact e
    have e2 : (u != -1) = true := by rw [bne_iff_ne]; exact e
    clear e
    go_enter Try.func22, Try.ntmps22
    go_wp2_with (go_at_call 42; (with_reducible refine HI.out.mono ?_); rintro e w' ⟨rfl, rfl⟩)
    go_ret2
    exact ⟨rfl, rfl⟩
theorem content_no {w : World} {N g gl cap : Nat} {l : List S72} {q : Bool} (h : AO w N g gl cap l q) (n : Int) (hn : ¬ (0 ≤ n ∧ n < (l.length : Int))) :
    Calls Try.prog 82 #[.pointer (some ⟨g, 0, none⟩), .int .i64 n] w fun e w' => e = .returned (.tuple #[.int .i64 0, .bool false]) ∧ w = w' := by
  have HI := hide (is_no h n hn)
  clear h hn
  go_enter Try.func82, Try.ntmps82
  go_wp2_with (go_at_call 42; (with_reducible refine HI.out.mono ?_); rintro e w' ⟨rfl, rfl⟩)
  go_ret2
  exact ⟨rfl, rfl⟩
theorem content {w : World} {N g gl cap : Nat} {l : List S72} {q : Bool} (h : AO w N g gl cap l q) (n : Nat) (hn : n < l.length) {u : Int} (hu : (nd l n).f6 = u) :
    Calls Try.prog 82 #[.pointer (some ⟨g, 0, none⟩), .int .i64 (n : Int)] w fun e w' => e = .returned (.tuple (if u = -1 then #[.int .i64 0, .bool false] else #[.int .i64 u, .bool true])) ∧ w = w' := by
  have HI := hide (is_yes h n hn)
  obtain ⟨v3, v5, hN, _, _⟩ := h.elem n hn
  have c0 := h.c0
  have x6 := hN.c11
  rw [hu] at x6
  have hn1 : (n : Int) < (l.length : Int) := by omega
  clear h hN hu hn
  by_cases e : u = -1
  · rw [if_pos e]
    subst e
    go_enter Try.func82, Try.ntmps82
    go_wp2_with (go_at_call 42; (with_reducible refine HI.out.mono ?_); rintro e w' ⟨rfl, rfl⟩)
    go_ret2
    exact ⟨rfl, rfl⟩
  · rw [if_neg e]
    have e1 : (u == -1) = false := by rw [beq_eq_false_iff_ne]; exact e
    have e2 : (u != -1) = true := by rw [bne_iff_ne]; exact e
    clear e
    go_enter Try.func82, Try.ntmps82
    go_wp2_with (go_at_call 42; (with_reducible refine HI.out.mono ?_); rintro e w' ⟨rfl, rfl⟩)
    go_ret2
    exact ⟨rfl, rfl⟩
end Go.Proofs.Ytjebpaapkmbahaa.Ar
