/- The arena's Append, Before, Detach, Write, WriteBefore. -/
import Derived.Test.YtjebpaapkmbahaaArLink
namespace Go.Proofs.Ytjebpaapkmbahaa.Ar
open Go.RowKit Go.Proofs.Ytjebpaapkmbahaa.PArenaPlays Go.Proofs.YtjebpaapkmbahaaW.PrintWords Go.Proofs.YtjebpaapkmbahaaW.PrintLast
set_option linter.unusedVariables false
set_option linter.unusedSimpArgs false
/-- The way up, the nodes one behind the other, by so many steps. -/
def upF (l : List S72) : Nat → Int → List Nat
  | 0, _ => []
  | k + 1, n => if n = -1 then [] else n.toNat :: upF l k (nd l n.toNat).f1
def kidsF (l : List S72) : Nat → Int → List Nat
  | 0, _ => []
  | k + 1, n => if n = -1 then [] else n.toNat :: kidsF l k (nd l n.toNat).f5
def ups (l : List S72) (n : Nat) : List Nat := upF l l.length n
def kidsL (l : List S72) (n : Nat) : List Nat := kidsF l l.length (nd l n).f2
def inR (l : List S72) (n : Int) : Prop := 0 ≤ n ∧ n < (l.length : Int)
instance (l : List S72) (n : Int) : Decidable (inR l n) := inferInstanceAs (Decidable (0 ≤ n ∧ n < (l.length : Int)))
def kd (l : List S72) (n : Nat) : Int := (nd l n).f0.f0
def LinkOk (l : List S72) (up n : Nat) (ref : Int) : Prop := up < l.length ∧ n < l.length ∧ Ref l ref ∧ Ref l (bef l up ref)
def CutOk (l : List S72) (n : Nat) : Prop := n < l.length ∧ ((nd l n).f1 = -1 ∨ ∃ u : Nat, (nd l n).f1 = (u : Int) ∧ u < l.length ∧ u ≠ n ∧ Ref l (nd l n).f4 ∧ (nd l n).f4 ≠ (n : Int) ∧ Ref l (nd l n).f5)
/-- A call that tells a number. -/
def Post (N g : Nat) (q : Bool) (w : World) (r : Int) (l : List S72) (e : Ending) (w' : World) : Prop := e = .returned (.int .i64 r) ∧ AS w' N g l q ∧ Fr N TA w w'
theorem Post.same {w : World} {N g gl cap : Nat} {l : List S72} {q : Bool} (h : AO w N g gl cap l q) (r : Int) : Post N g q w r l (.returned (.int .i64 r)) w := ⟨rfl, h.as, Fr.refl _ _ _⟩
theorem Post.cong {w w' : World} {N g : Nat} {l l' : List S72} {q : Bool} {r r' : Int} {e : Ending} (h : Post N g q w r l e w') (hr : r = r') (hl : l = l') : Post N g q w r' l' e w' := by rw [← hr, ← hl]; exact h
theorem toN {l : List S72} {n : Int} (h : inR l n) : ∃ k : Nat, n = (k : Int) ∧ k < l.length := ⟨n.toNat, by have := h.1; omega, by have := h.1; have := h.2; omega⟩
def appendL (l : List S72) (p n : Int) : Int × List S72 :=
  if inR l p ∧ inR l n then
    (if holdK (kd l p.toNat) && !fixK (kd l n.toNat) then
      (if mayL l n.toNat (ups l p.toNat) = 0 then (0, linkL l p.toNat n.toNat (-1)) else (mayL l n.toNat (ups l p.toNat), l))
    else (23, l))
  else (22, l)
theorem append_none {w : World} {N g gl cap : Nat} {l : List S72} {q : Bool} (h : AO w N g gl cap l q) (hNw : N ≤ w.heap.size) (p n : Int) (hpn : ¬ (inR l p ∧ inR l n)) :
    Calls Try.prog 13 #[.pointer (some ⟨g, 0, none⟩), .int .i64 p, .int .i64 n] w (Post N g q w 22 l) := by
  have HO := hide h
  by_cases hp : inR l p
  · obtain ⟨k, rfl, hk⟩ := toN hp
    have hn : ¬ inR l n := fun hn => hpn ⟨hp, hn⟩
    have H1 := hide (is_yes h k hk)
    have H2 := hide (is_no h n hn)
    clear h hp hn hk hpn
    go_enter Try.func13, Try.ntmps13
    go_wp2_with (first | (go_at_call 42; (with_reducible refine H1.out.mono ?_); rintro e w' ⟨rfl, rfl⟩) | (go_at_call 42; (with_reducible refine H2.out.mono ?_); rintro e w' ⟨rfl, rfl⟩))
    go_ret
    exact Post.same HO.out 22
  · have H1 := hide (is_no h p hp)
    clear h hp hpn
    go_enter Try.func13, Try.ntmps13
    go_wp2_with (first | (go_at_call 42; (with_reducible refine H1.out.mono ?_); rintro e w' ⟨rfl, rfl⟩))
    go_ret
    exact Post.same HO.out 22
theorem append_kind {w : World} {N g gl cap : Nat} {l : List S72} {q : Bool} (h : AO w N g gl cap l q) (hNw : N ≤ w.heap.size) (p n : Nat) (hp : p < l.length) (hn : n < l.length) (hk : (holdK (kd l p) && !fixK (kd l n)) = false) :
    Calls Try.prog 13 #[.pointer (some ⟨g, 0, none⟩), .int .i64 (p : Int), .int .i64 (n : Int)] w (Post N g q w 23 l) := by
  have HO := hide h
  have H1 := hide (is_yes h p hp)
  have H2 := hide (is_yes h n hn)
  obtain ⟨b, hb⟩ : ∃ b, holdK (kd l p) = b := ⟨_, rfl⟩
  obtain ⟨c, hc⟩ : ∃ c, fixK (kd l n) = c := ⟨_, rfl⟩
  have H3 := hide (holds h p hp rfl hb)
  have H4 := hide (fixed h n hn rfl hc)
  rw [hb, hc] at hk
  clear h hp hn hb hc
  cases b with
  | false =>
    go_enter Try.func13, Try.ntmps13
    go_wp2_with (first | (go_at_call 42; (with_reducible refine H1.out.mono ?_); rintro e w' ⟨rfl, rfl⟩) | (go_at_call 42; (with_reducible refine H2.out.mono ?_); rintro e w' ⟨rfl, rfl⟩) | (go_at_call 43; (with_reducible refine H3.out.mono ?_); rintro e w' ⟨rfl, rfl⟩) | (go_at_call 44; (with_reducible refine H4.out.mono ?_); rintro e w' ⟨rfl, rfl⟩))
    go_ret
    exact Post.same HO.out 23
  | true =>
    cases c with
    | true =>
      go_enter Try.func13, Try.ntmps13
      go_wp2_with (first | (go_at_call 42; (with_reducible refine H1.out.mono ?_); rintro e w' ⟨rfl, rfl⟩) | (go_at_call 42; (with_reducible refine H2.out.mono ?_); rintro e w' ⟨rfl, rfl⟩) | (go_at_call 43; (with_reducible refine H3.out.mono ?_); rintro e w' ⟨rfl, rfl⟩) | (go_at_call 44; (with_reducible refine H4.out.mono ?_); rintro e w' ⟨rfl, rfl⟩))
      go_ret
      exact Post.same HO.out 23
    | false => exact absurd hk (by decide)
theorem append_yes {w : World} {N g gl cap : Nat} {l : List S72} {q : Bool} (h : AO w N g gl cap l q) (hNw : N ≤ w.heap.size) (p n : Nat) (hp : p < l.length) (hn : n < l.length) (hk : (holdK (kd l p) && !fixK (kd l n)) = true) (hu : Up l (p : Int) (ups l p)) (hl : LinkOk l p n (-1)) :
    Calls Try.prog 13 #[.pointer (some ⟨g, 0, none⟩), .int .i64 (p : Int), .int .i64 (n : Int)] w (Post N g q w (mayL l n (ups l p)) (if mayL l n (ups l p) = 0 then linkL l p n (-1) else l)) := by
  have HO := hide h
  have H1 := hide (is_yes h p hp)
  have H2 := hide (is_yes h n hn)
  have hb := (Bool.and_eq_true_iff.1 hk).1
  have hc : fixK (kd l n) = false := by have := (Bool.and_eq_true_iff.1 hk).2; simpa using this
  have H3 := hide (holds h p hp rfl hb)
  have H4 := hide (fixed h n hn rfl hc)
  obtain ⟨r, hr⟩ : ∃ r, mayL l n (ups l p) = r := ⟨_, rfl⟩
  have H5 := hide (may h p n hn hu hr)
  have H6 := hide (link h p n (-1) hp hn hl.2.2.1 hl.2.2.2)
  rw [hr]
  clear h hp hn hb hc hk hu hl hr hNw
  by_cases e : r = 0
  · rw [if_pos e]
    subst e
    go_enter Try.func13, Try.ntmps13
    go_wp2_with (first | (go_at_call 42; (with_reducible refine H1.out.mono ?_); rintro e w' ⟨rfl, rfl⟩) | (go_at_call 42; (with_reducible refine H2.out.mono ?_); rintro e w' ⟨rfl, rfl⟩) | (go_at_call 43; (with_reducible refine H3.out.mono ?_); rintro e w' ⟨rfl, rfl⟩) | (go_at_call 44; (with_reducible refine H4.out.mono ?_); rintro e w' ⟨rfl, rfl⟩) | (go_at_call 45; (with_reducible refine H5.out.mono ?_); rintro e w' ⟨rfl, rfl⟩) | (go_at_call 41; (with_reducible refine H6.out.mono ?_); rintro e w' ⟨rfl, hA, hF⟩))
    go_ret
    exact ⟨rfl, hA.as, hF⟩
  · rw [if_neg e]
    have e1 : (r == 0) = false := by rw [beq_eq_false_iff_ne]; exact e
    have e2 : (r != 0) = true := by rw [bne_iff_ne]; exact e
    clear e
    go_enter Try.func13, Try.ntmps13
    go_wp2_with (first | (go_at_call 42; (with_reducible refine H1.out.mono ?_); rintro e w' ⟨rfl, rfl⟩) | (go_at_call 42; (with_reducible refine H2.out.mono ?_); rintro e w' ⟨rfl, rfl⟩) | (go_at_call 43; (with_reducible refine H3.out.mono ?_); rintro e w' ⟨rfl, rfl⟩) | (go_at_call 44; (with_reducible refine H4.out.mono ?_); rintro e w' ⟨rfl, rfl⟩) | (go_at_call 45; (with_reducible refine H5.out.mono ?_); rintro e w' ⟨rfl, rfl⟩) | (go_at_call 41; (with_reducible refine H6.out.mono ?_); rintro e w' ⟨rfl, hA, hF⟩))
    go_ret
    exact Post.same HO.out r
theorem append {w : World} {N g gl cap : Nat} {l : List S72} {q : Bool} (h : AO w N g gl cap l q) (hNw : N ≤ w.heap.size) (p n : Int) (hu : ∀ k : Nat, k < l.length → Up l (k : Int) (ups l k)) (hl : ∀ a b : Nat, a < l.length → b < l.length → LinkOk l a b (-1)) :
    Calls Try.prog 13 #[.pointer (some ⟨g, 0, none⟩), .int .i64 p, .int .i64 n] w (Post N g q w (appendL l p n).1 (appendL l p n).2) := by
  unfold appendL
  by_cases h1 : inR l p ∧ inR l n
  · rw [if_pos h1]
    obtain ⟨a, rfl, ha⟩ := toN h1.1
    obtain ⟨b, rfl, hb⟩ := toN h1.2
    simp only [Int.toNat_natCast]
    cases h2 : (holdK (kd l a) && !fixK (kd l b)) with
    | false => exact append_kind h hNw a b ha hb h2
    | true =>
      refine (append_yes h hNw a b ha hb h2 (hu a ha) (hl a b ha hb)).mono fun e w' hp => hp.cong ?_ ?_
      · by_cases e : mayL l b (ups l a) = 0
        · rw [if_pos rfl, if_pos e, e]
        · rw [if_pos rfl, if_neg e]
      · by_cases e : mayL l b (ups l a) = 0
        · rw [if_pos e, if_pos rfl, if_pos e]
        · rw [if_neg e, if_pos rfl, if_neg e]
  · rw [if_neg h1]
    exact append_none h hNw p n h1
def beforeL (l : List S72) (r n : Int) : Int × List S72 :=
  if inR l r ∧ inR l n then
    (if aheadL l r.toNat = 0 then
      (if fixK (kd l n.toNat) then (23, l) else
        (if mayL l n.toNat (ups l r.toNat) = 0 then (0, linkL l (nd l r.toNat).f1.toNat n.toNat r) else (mayL l n.toNat (ups l r.toNat), l)))
    else (aheadL l r.toNat, l))
  else (22, l)
theorem before_none {w : World} {N g gl cap : Nat} {l : List S72} {q : Bool} (h : AO w N g gl cap l q) (hNw : N ≤ w.heap.size) (p n : Int) (hpn : ¬ (inR l p ∧ inR l n)) :
    Calls Try.prog 30 #[.pointer (some ⟨g, 0, none⟩), .int .i64 p, .int .i64 n] w (Post N g q w 22 l) := by
  have HO := hide h
  by_cases hp : inR l p
  · obtain ⟨k, rfl, hk⟩ := toN hp
    have hn : ¬ inR l n := fun hn => hpn ⟨hp, hn⟩
    have H1 := hide (is_yes h k hk)
    have H2 := hide (is_no h n hn)
    clear h hp hn hk hpn
    go_enter Try.func30, Try.ntmps30
    go_wp2_with (first | (go_at_call 42; (with_reducible refine H1.out.mono ?_); rintro e w' ⟨rfl, rfl⟩) | (go_at_call 42; (with_reducible refine H2.out.mono ?_); rintro e w' ⟨rfl, rfl⟩))
    go_ret
    exact Post.same HO.out 22
  · have H1 := hide (is_no h p hp)
    clear h hp hpn
    go_enter Try.func30, Try.ntmps30
    go_wp2_with (first | (go_at_call 42; (with_reducible refine H1.out.mono ?_); rintro e w' ⟨rfl, rfl⟩))
    go_ret
    exact Post.same HO.out 22
theorem before_ahead {w : World} {N g gl cap : Nat} {l : List S72} {q : Bool} (h : AO w N g gl cap l q) (hNw : N ≤ w.heap.size) (p n : Nat) (hp : p < l.length) (hn : n < l.length) (ha : aheadL l p ≠ 0) :
    Calls Try.prog 30 #[.pointer (some ⟨g, 0, none⟩), .int .i64 (p : Int), .int .i64 (n : Int)] w (Post N g q w (aheadL l p) l) := by
  have HO := hide h
  have H1 := hide (is_yes h p hp)
  have H2 := hide (is_yes h n hn)
  obtain ⟨r, hr⟩ : ∃ r, aheadL l p = r := ⟨_, rfl⟩
  have H3 := hide (ahead h p hp hr)
  rw [hr] at ha ⊢
  have e1 : (r == 0) = false := by rw [beq_eq_false_iff_ne]; exact ha
  have e2 : (r != 0) = true := by rw [bne_iff_ne]; exact ha
  clear h hp hn hr ha
  go_enter Try.func30, Try.ntmps30
  go_wp2_with (first | (go_at_call 42; (with_reducible refine H1.out.mono ?_); rintro e w' ⟨rfl, rfl⟩) | (go_at_call 42; (with_reducible refine H2.out.mono ?_); rintro e w' ⟨rfl, rfl⟩) | (go_at_call 69; (with_reducible refine H3.out.mono ?_); rintro e w' ⟨rfl, rfl⟩))
  go_ret
  exact Post.same HO.out r
theorem before_fixed {w : World} {N g gl cap : Nat} {l : List S72} {q : Bool} (h : AO w N g gl cap l q) (hNw : N ≤ w.heap.size) (p n : Nat) (hp : p < l.length) (hn : n < l.length) (ha : aheadL l p = 0) (hf : fixK (kd l n) = true) :
    Calls Try.prog 30 #[.pointer (some ⟨g, 0, none⟩), .int .i64 (p : Int), .int .i64 (n : Int)] w (Post N g q w 23 l) := by
  have HO := hide h
  have H1 := hide (is_yes h p hp)
  have H2 := hide (is_yes h n hn)
  have H3 := hide (ahead h p hp ha)
  have H4 := hide (fixed h n hn rfl hf)
  clear h hp hn ha hf
  go_enter Try.func30, Try.ntmps30
  go_wp2_with (first | (go_at_call 42; (with_reducible refine H1.out.mono ?_); rintro e w' ⟨rfl, rfl⟩) | (go_at_call 42; (with_reducible refine H2.out.mono ?_); rintro e w' ⟨rfl, rfl⟩) | (go_at_call 69; (with_reducible refine H3.out.mono ?_); rintro e w' ⟨rfl, rfl⟩) | (go_at_call 44; (with_reducible refine H4.out.mono ?_); rintro e w' ⟨rfl, rfl⟩))
  go_ret
  exact Post.same HO.out 23
theorem before_yes {w : World} {N g gl cap : Nat} {l : List S72} {q : Bool} (h : AO w N g gl cap l q) (hNw : N ≤ w.heap.size) (p n u : Nat) (hp : p < l.length) (hn : n < l.length) (ha : aheadL l p = 0) (hf : fixK (kd l n) = false) (hpu : (nd l p).f1 = (u : Int)) (hu : Up l (p : Int) (ups l p)) (hl : LinkOk l u n (p : Int)) :
    Calls Try.prog 30 #[.pointer (some ⟨g, 0, none⟩), .int .i64 (p : Int), .int .i64 (n : Int)] w (Post N g q w (mayL l n (ups l p)) (if mayL l n (ups l p) = 0 then linkL l u n (p : Int) else l)) := by
  have HO := hide h
  have H1 := hide (is_yes h p hp)
  have H2 := hide (is_yes h n hn)
  have H3 := hide (ahead h p hp ha)
  have H4 := hide (fixed h n hn rfl hf)
  obtain ⟨r, hr⟩ : ∃ r, mayL l n (ups l p) = r := ⟨_, rfl⟩
  have H5 := hide (may h p n hn hu hr)
  have H6 := hide (link h u n (p : Int) hl.1 hn hl.2.2.1 hl.2.2.2)
  rw [hr]
  have c0 := h.c0
  obtain ⟨_, _, hNd, _, _⟩ := h.elem p hp
  have x6 := hNd.c6
  rw [hpu] at x6
  have hp1 : (p : Int) < (l.length : Int) := by omega
  clear h hp hn ha hf hu hl hr hNw hNd hpu
  by_cases e : r = 0
  · rw [if_pos e]
    subst e
    go_enter Try.func30, Try.ntmps30
    go_wp2_with (first | (go_at_call 42; (with_reducible refine H1.out.mono ?_); rintro e w' ⟨rfl, rfl⟩) | (go_at_call 42; (with_reducible refine H2.out.mono ?_); rintro e w' ⟨rfl, rfl⟩) | (go_at_call 69; (with_reducible refine H3.out.mono ?_); rintro e w' ⟨rfl, rfl⟩) | (go_at_call 44; (with_reducible refine H4.out.mono ?_); rintro e w' ⟨rfl, rfl⟩) | (go_at_call 45; (with_reducible refine H5.out.mono ?_); rintro e w' ⟨rfl, rfl⟩) | (go_at_call 41; (with_reducible refine H6.out.mono ?_); rintro e w' ⟨rfl, hA, hF⟩))
    go_ret
    exact ⟨rfl, hA.as, hF⟩
  · rw [if_neg e]
    have e1 : (r == 0) = false := by rw [beq_eq_false_iff_ne]; exact e
    have e2 : (r != 0) = true := by rw [bne_iff_ne]; exact e
    clear e
    go_enter Try.func30, Try.ntmps30
    go_wp2_with (first | (go_at_call 42; (with_reducible refine H1.out.mono ?_); rintro e w' ⟨rfl, rfl⟩) | (go_at_call 42; (with_reducible refine H2.out.mono ?_); rintro e w' ⟨rfl, rfl⟩) | (go_at_call 69; (with_reducible refine H3.out.mono ?_); rintro e w' ⟨rfl, rfl⟩) | (go_at_call 44; (with_reducible refine H4.out.mono ?_); rintro e w' ⟨rfl, rfl⟩) | (go_at_call 45; (with_reducible refine H5.out.mono ?_); rintro e w' ⟨rfl, rfl⟩) | (go_at_call 41; (with_reducible refine H6.out.mono ?_); rintro e w' ⟨rfl, hA, hF⟩))
    go_ret
    exact Post.same HO.out r
theorem aheadL_up {l : List S72} {p : Nat} (h : aheadL l p = 0) : (nd l p).f1 ≠ -1 := by
  unfold aheadL at h
  split at h
  · exact absurd h (by decide)
  · split at h
    · exact absurd h (by decide)
    · assumption
theorem before {w : World} {N g gl cap : Nat} {l : List S72} {q : Bool} (h : AO w N g gl cap l q) (hNw : N ≤ w.heap.size) (p n : Int) (hu : ∀ k : Nat, k < l.length → Up l (k : Int) (ups l k)) (hr1 : ∀ k : Nat, k < l.length → Ref l (nd l k).f1) (hl : ∀ a b u : Nat, a < l.length → b < l.length → (nd l a).f1 = (u : Int) → LinkOk l u b (a : Int)) :
    Calls Try.prog 30 #[.pointer (some ⟨g, 0, none⟩), .int .i64 p, .int .i64 n] w (Post N g q w (beforeL l p n).1 (beforeL l p n).2) := by
  unfold beforeL
  by_cases h1 : inR l p ∧ inR l n
  · rw [if_pos h1]
    obtain ⟨a, rfl, ha⟩ := toN h1.1
    obtain ⟨b, rfl, hb⟩ := toN h1.2
    simp only [Int.toNat_natCast]
    by_cases h2 : aheadL l a = 0
    · rw [if_pos h2]
      cases h3 : fixK (kd l b) with
      | true => exact before_fixed h hNw a b ha hb h2 h3
      | false =>
        rcases hr1 a ha with h4 | ⟨u, h4, hul⟩
        · exact absurd h4 (aheadL_up h2)
        · rw [if_neg (by decide)]
          refine (before_yes h hNw a b u ha hb h2 h3 h4 (hu a ha) (hl a b u ha hb h4)).mono fun e w' hp => hp.cong ?_ ?_
          · by_cases e : mayL l b (ups l a) = 0
            · rw [if_pos e, e]
            · rw [if_neg e]
          · rw [h4, Int.toNat_natCast]
            by_cases e : mayL l b (ups l a) = 0
            · rw [if_pos e, if_pos e]
            · rw [if_neg e, if_neg e]
    · rw [if_neg h2]
      exact before_ahead h hNw a b ha hb h2
  · rw [if_neg h1]
    exact before_none h hNw p n h1
def detachL (l : List S72) (n : Int) : Int × List S72 :=
  if inR l n then (if fixK (kd l n.toNat) then (23, l) else (0, cutL l n.toNat)) else (22, l)
theorem detach {w : World} {N g gl cap : Nat} {l : List S72} {q : Bool} (h : AO w N g gl cap l q) (hNw : N ≤ w.heap.size) (n : Int) (hc : ∀ k : Nat, k < l.length → CutOk l k) :
    Calls Try.prog 27 #[.pointer (some ⟨g, 0, none⟩), .int .i64 n] w (Post N g q w (detachL l n).1 (detachL l n).2) := by
  unfold detachL
  have HO := hide h
  by_cases h1 : inR l n
  · rw [if_pos h1]
    obtain ⟨k, rfl, hk⟩ := toN h1
    simp only [Int.toNat_natCast]
    have H1 := hide (is_yes h k hk)
    cases h2 : fixK (kd l k) with
    | true =>
      have H2 := hide (fixed h k hk rfl h2)
      clear h h1 hk h2 hc
      go_enter Try.func27, Try.ntmps27
      go_wp2_with (first | (go_at_call 42; (with_reducible refine H1.out.mono ?_); rintro e w' ⟨rfl, rfl⟩) | (go_at_call 44; (with_reducible refine H2.out.mono ?_); rintro e w' ⟨rfl, rfl⟩))
      go_ret
      exact Post.same HO.out 23
    | false =>
      have H2 := hide (fixed h k hk rfl h2)
      rw [if_neg (by decide)]
      rcases (hc k hk).2 with h3 | ⟨u, h3, h4, h5, h6, h7, h8⟩
      · have H3 := hide (cut_no h k hk h3)
        have e : cutL l k = l := by unfold cutL; rw [if_pos h3]
        rw [e]
        clear h h1 hk h2 hc h3 e
        go_enter Try.func27, Try.ntmps27
        go_wp2_with (first | (go_at_call 42; (with_reducible refine H1.out.mono ?_); rintro e w' ⟨rfl, rfl⟩) | (go_at_call 44; (with_reducible refine H2.out.mono ?_); rintro e w' ⟨rfl, rfl⟩) | (go_at_call 62; (with_reducible refine H3.out.mono ?_); rintro e w' ⟨rfl, rfl⟩))
        go_ret
        exact Post.same HO.out 0
      · have H3 := hide (cut h hNw k u hk h3 h4 h5 h6 h7 h8)
        clear h h1 hk h2 hc h3 h4 h5 h6 h7 h8
        go_enter Try.func27, Try.ntmps27
        go_wp2_with (first | (go_at_call 42; (with_reducible refine H1.out.mono ?_); rintro e w' ⟨rfl, rfl⟩) | (go_at_call 44; (with_reducible refine H2.out.mono ?_); rintro e w' ⟨rfl, rfl⟩) | (go_at_call 62; (with_reducible refine H3.out.mono ?_); rintro e w' ⟨rfl, hA, hF⟩))
        go_ret
        exact ⟨rfl, hA.as, hF⟩
  · rw [if_neg h1]
    have H1 := hide (is_no h n h1)
    clear h h1 hc
    go_enter Try.func27, Try.ntmps27
    go_wp2_with (first | (go_at_call 42; (with_reducible refine H1.out.mono ?_); rintro e w' ⟨rfl, rfl⟩))
    go_ret
    exact Post.same HO.out 22
def txtT (s : ByteArray) : S35 := ⟨4, 0, ⟨#[]⟩, [], s, []⟩
/-- Text at a place: at last's end, or a node more. -/
def putT (l : List S72) (up : Nat) (last ref : Int) (s : ByteArray) : List S72 :=
  if last ≠ -1 ∧ kd l last.toNat = 4 then textL l last.toNat s else linkL (l ++ [newN (txtT s)]) up l.length ref
def writeL (l : List S72) (p : Int) (s : ByteArray) : Int × List S72 :=
  if inR l p then (if holdK (kd l p.toNat) then (if s.toList = [] ∨ kd l p.toNat = 1 then (0, l) else (0, putT l p.toNat (nd l p.toNat).f3 (-1) s)) else (23, l)) else (22, l)
def writeBL (l : List S72) (r : Int) (s : ByteArray) : Int × List S72 :=
  if inR l r then (if aheadL l r.toNat = 0 then (if s.toList = [] ∨ kd l (nd l r.toNat).f1.toNat = 1 then (0, l) else (0, putT l (nd l r.toNat).f1.toNat (nd l r.toNat).f4 r s)) else (aheadL l r.toNat, l)) else (22, l)
theorem write_none {w : World} {N g gl cap : Nat} {l : List S72} {q : Bool} (h : AO w N g gl cap l q) (hNw : N ≤ w.heap.size) (p : Int) (hp : ¬ inR l p) (s : ByteArray) :
    Calls Try.prog 16 #[.pointer (some ⟨g, 0, none⟩), .int .i64 p, .string s] w (Post N g q w 22 l) := by
  have HO := hide h
  have H1 := hide (is_no h p hp)
  clear h hp
  go_enter Try.func16, Try.ntmps16
  go_wp2_with (first | (go_at_call 42; (with_reducible refine H1.out.mono ?_); rintro e w' ⟨rfl, rfl⟩))
  go_ret
  exact Post.same HO.out 22
theorem write_kind {w : World} {N g gl cap : Nat} {l : List S72} {q : Bool} (h : AO w N g gl cap l q) (hNw : N ≤ w.heap.size) (p : Nat) (hp : p < l.length) (hk : holdK (kd l p) = false) (s : ByteArray) :
    Calls Try.prog 16 #[.pointer (some ⟨g, 0, none⟩), .int .i64 (p : Int), .string s] w (Post N g q w 23 l) := by
  have HO := hide h
  have H1 := hide (is_yes h p hp)
  have H2 := hide (holds h p hp rfl hk)
  clear h hp hk
  go_enter Try.func16, Try.ntmps16
  go_wp2_with (first | (go_at_call 42; (with_reducible refine H1.out.mono ?_); rintro e w' ⟨rfl, rfl⟩) | (go_at_call 43; (with_reducible refine H2.out.mono ?_); rintro e w' ⟨rfl, rfl⟩))
  go_ret
  exact Post.same HO.out 23
theorem write_nil {w : World} {N g gl cap : Nat} {l : List S72} {q : Bool} (h : AO w N g gl cap l q) (hNw : N ≤ w.heap.size) (p : Nat) (hp : p < l.length) (hk : holdK (kd l p) = true) (s : ByteArray) (hs : s.toList = [] ∨ kd l p = 1) :
    Calls Try.prog 16 #[.pointer (some ⟨g, 0, none⟩), .int .i64 (p : Int), .string s] w (Post N g q w 0 l) := by
  have HO := hide h
  have H1 := hide (is_yes h p hp)
  have H2 := hide (holds h p hp rfl hk)
  obtain ⟨k, hk0⟩ : ∃ k, kd l p = k := ⟨_, rfl⟩
  have H3 := hide (kind h p hp hk0)
  rw [hk0] at hs
  clear h hp hk hk0
  by_cases hs0 : s.toList = []
  · have hs1 : s.toList.isEmpty = true := by rw [hs0]; rfl
    clear hs
    go_enter Try.func16, Try.ntmps16
    go_wp2_with (first | (go_at_call 42; (with_reducible refine H1.out.mono ?_); rintro e w' ⟨rfl, rfl⟩) | (go_at_call 43; (with_reducible refine H2.out.mono ?_); rintro e w' ⟨rfl, rfl⟩) | (go_at_call 46; (with_reducible refine H3.out.mono ?_); rintro e w' ⟨rfl, rfl⟩))
    go_ret
    exact Post.same HO.out 0
  · obtain rfl : k = 1 := hs.resolve_left hs0
    have hs1 : s.toList.isEmpty = false := by cases h : s.toList with | nil => exact absurd h hs0 | cons _ _ => rfl
    clear hs
    go_enter Try.func16, Try.ntmps16
    go_wp2_with (first | (go_at_call 42; (with_reducible refine H1.out.mono ?_); rintro e w' ⟨rfl, rfl⟩) | (go_at_call 43; (with_reducible refine H2.out.mono ?_); rintro e w' ⟨rfl, rfl⟩) | (go_at_call 46; (with_reducible refine H3.out.mono ?_); rintro e w' ⟨rfl, rfl⟩))
    go_ret
    exact Post.same HO.out 0
set_option maxHeartbeats 4000000 in
set_option maxRecDepth 100000 in
theorem write_put {w : World} {N g gl cap : Nat} {l : List S72} {q : Bool} (h : AO w N g gl cap l q) (hNw : N ≤ w.heap.size) (p : Nat) (hp : p < l.length) (hk : holdK (kd l p) = true) (s : ByteArray) (hs : ¬ s.toList = []) (hk1 : kd l p ≠ 1) (hlen : l.length ≤ 100000000) (hts : ∀ k : Nat, k < l.length → (nd l k).f0.f4.size + s.size ≤ 1000000000) (hlast : Ref l (nd l p).f3) (hlk : LinkOk (l ++ [newN (txtT s)]) p l.length (-1)) :
    Calls Try.prog 16 #[.pointer (some ⟨g, 0, none⟩), .int .i64 (p : Int), .string s] w (Post N g q w 0 (putT l p (nd l p).f3 (-1) s)) := by
  have H1 := hide (is_yes h p hp)
  have H2 := hide (holds h p hp rfl hk)
  have hs1 : s.toList.isEmpty = false := by cases h : s.toList with | nil => exact absurd h hs | cons _ _ => rfl
  obtain ⟨k0, hk0⟩ : ∃ k, kd l p = k := ⟨_, rfl⟩
  have H3 := hide (kind h p hp hk0)
  rw [hk0] at hk1
  have e1 : (k0 == 1) = false := by rw [beq_eq_false_iff_ne]; exact hk1
  have HLK := hide hlk
  have H7 : Hid (Calls Try.prog 39 #[.pointer (some ⟨g, 0, none⟩), .agg #[.int .i64 4, .int .i64 0, .string ⟨#[]⟩, .slice none 0 0, .string s, .slice none 0 0]] w fun e w' => e = .returned (.int .i64 (l.length : Int)) ∧ AS w' N g (l ++ [newN (txtT s)]) q ∧ Fr N TA w w') := hide (add h.as hNw (txtT s) rfl (v3 := .slice none 0 0) (ok := fun _ => True) (Kd.R_nil _ _ _ _ _) hlen)
  have c0 := h.c0
  obtain ⟨_, _, hNd, _, _⟩ := h.elem p hp
  have xl := hNd.c8
  have hp1 : (p : Int) < (l.length : Int) := by omega
  clear hp hk hk0 hk1 hlk hNd
  rcases hlast with hb | ⟨k, hb, hk⟩
  · have e : putT l p (nd l p).f3 (-1) s = linkL (l ++ [newN (txtT s)]) p l.length (-1) := by unfold putT; rw [if_neg (fun h => h.1 hb)]
    rw [e]
    rw [hb] at xl
    have H6 := hide (text_none h s)
    clear h hb e hts hlen hNw
    go_enter Try.func16, Try.ntmps16
    go_wp2_with (first | (go_at_call 42; (with_reducible refine H1.out.mono ?_); rintro e w' ⟨rfl, rfl⟩) | (go_at_call 43; (with_reducible refine H2.out.mono ?_); rintro e w' ⟨rfl, rfl⟩) | (go_at_call 46; (with_reducible refine H3.out.mono ?_); rintro e w' ⟨rfl, rfl⟩) | (go_at_call 47; (with_reducible refine H6.out.mono ?_); rintro e w' ⟨rfl, rfl⟩) | (go_at_call 39; (with_reducible refine H7.out.mono ?_); rintro e w' ⟨rfl, hA, hF⟩; obtain ⟨gl2, cap2, h2⟩ := hA.open_ (by simp); have H8 := hide (link h2 p l.length (-1) HLK.out.1 HLK.out.2.1 HLK.out.2.2.1 HLK.out.2.2.2); have HF2 := hide hF; clear hA hF h2) | (go_at_call 41; (with_reducible refine H8.out.mono ?_); rintro e w' ⟨rfl, hA, hF⟩; have HA3 := hide hA; have HF3 := hide hF; clear hA hF))
    go_ret
    exact ⟨rfl, HA3.out.as, HF2.out.trans HF3.out⟩
  · rw [hb] at xl
    by_cases hk4 : kd l k = 4
    · have e : putT l p (nd l p).f3 (-1) s = textL l k s := by unfold putT; rw [hb, Int.toNat_natCast, if_pos ⟨by omega, hk4⟩]
      rw [e]
      have H6 := hide (text_yes h k hk hk4 s (hts k hk))
      clear h hb e hk hk4 hts hlen hNw
      go_enter Try.func16, Try.ntmps16
      go_wp2_with (first | (go_at_call 42; (with_reducible refine H1.out.mono ?_); rintro e w' ⟨rfl, rfl⟩) | (go_at_call 43; (with_reducible refine H2.out.mono ?_); rintro e w' ⟨rfl, rfl⟩) | (go_at_call 46; (with_reducible refine H3.out.mono ?_); rintro e w' ⟨rfl, rfl⟩) | (go_at_call 47; (with_reducible refine H6.out.mono ?_); rintro e w' ⟨rfl, hA, hF⟩; have HA3 := hide hA; have HF3 := hide hF; clear hA hF))
      go_ret
      exact ⟨rfl, HA3.out.as, HF3.out⟩
    · have e : putT l p (nd l p).f3 (-1) s = linkL (l ++ [newN (txtT s)]) p l.length (-1) := by unfold putT; rw [hb, Int.toNat_natCast, if_neg (fun h => hk4 h.2)]
      rw [e]
      have H6 := hide (text_no h k hk hk4 s)
      clear h hb e hk hk4 hts hlen hNw
      go_enter Try.func16, Try.ntmps16
      go_wp2_with (first | (go_at_call 42; (with_reducible refine H1.out.mono ?_); rintro e w' ⟨rfl, rfl⟩) | (go_at_call 43; (with_reducible refine H2.out.mono ?_); rintro e w' ⟨rfl, rfl⟩) | (go_at_call 46; (with_reducible refine H3.out.mono ?_); rintro e w' ⟨rfl, rfl⟩) | (go_at_call 47; (with_reducible refine H6.out.mono ?_); rintro e w' ⟨rfl, rfl⟩) | (go_at_call 39; (with_reducible refine H7.out.mono ?_); rintro e w' ⟨rfl, hA, hF⟩; obtain ⟨gl2, cap2, h2⟩ := hA.open_ (by simp); have H8 := hide (link h2 p l.length (-1) HLK.out.1 HLK.out.2.1 HLK.out.2.2.1 HLK.out.2.2.2); have HF2 := hide hF; clear hA hF h2) | (go_at_call 41; (with_reducible refine H8.out.mono ?_); rintro e w' ⟨rfl, hA, hF⟩; have HA3 := hide hA; have HF3 := hide hF; clear hA hF))
      go_ret
      exact ⟨rfl, HA3.out.as, HF2.out.trans HF3.out⟩
theorem write {w : World} {N g gl cap : Nat} {l : List S72} {q : Bool} (h : AO w N g gl cap l q) (hNw : N ≤ w.heap.size) (p : Int) (s : ByteArray) (hlen : l.length ≤ 100000000) (hts : ∀ k : Nat, k < l.length → (nd l k).f0.f4.size + s.size ≤ 1000000000) (hlast : ∀ k : Nat, k < l.length → Ref l (nd l k).f3) (hlk : ∀ k : Nat, k < l.length → LinkOk (l ++ [newN (txtT s)]) k l.length (-1)) :
    Calls Try.prog 16 #[.pointer (some ⟨g, 0, none⟩), .int .i64 p, .string s] w (Post N g q w (writeL l p s).1 (writeL l p s).2) := by
  unfold writeL
  by_cases h1 : inR l p
  · rw [if_pos h1]
    obtain ⟨a, rfl, ha⟩ := toN h1
    simp only [Int.toNat_natCast]
    cases h2 : holdK (kd l a) with
    | false => exact write_kind h hNw a ha h2 s
    | true =>
      rw [if_pos rfl]
      by_cases h3 : s.toList = [] ∨ kd l a = 1
      · rw [if_pos h3]
        exact write_nil h hNw a ha h2 s h3
      · rw [if_neg h3]
        exact write_put h hNw a ha h2 s (fun e => h3 (.inl e)) (fun e => h3 (.inr e)) hlen hts (hlast a ha) (hlk a ha)
  · rw [if_neg h1]
    exact write_none h hNw p h1 s
theorem writeB_none {w : World} {N g gl cap : Nat} {l : List S72} {q : Bool} (h : AO w N g gl cap l q) (hNw : N ≤ w.heap.size) (p : Int) (hp : ¬ inR l p) (s : ByteArray) :
    Calls Try.prog 34 #[.pointer (some ⟨g, 0, none⟩), .int .i64 p, .string s] w (Post N g q w 22 l) := by
  have HO := hide h
  have H1 := hide (ahead_no h p hp)
  clear h hp
  go_enter Try.func34, Try.ntmps34
  go_wp2_with (first | (go_at_call 69; (with_reducible refine H1.out.mono ?_); rintro e w' ⟨rfl, rfl⟩))
  go_ret
  exact Post.same HO.out 22
theorem writeB_ahead {w : World} {N g gl cap : Nat} {l : List S72} {q : Bool} (h : AO w N g gl cap l q) (hNw : N ≤ w.heap.size) (p : Nat) (hp : p < l.length) (ha : aheadL l p ≠ 0) (s : ByteArray) :
    Calls Try.prog 34 #[.pointer (some ⟨g, 0, none⟩), .int .i64 (p : Int), .string s] w (Post N g q w (aheadL l p) l) := by
  have HO := hide h
  obtain ⟨r, hr⟩ : ∃ r, aheadL l p = r := ⟨_, rfl⟩
  have H1 := hide (ahead h p hp hr)
  rw [hr] at ha ⊢
  have e1 : (r == 0) = false := by rw [beq_eq_false_iff_ne]; exact ha
  have e2 : (r != 0) = true := by rw [bne_iff_ne]; exact ha
  clear h hp hr ha
  go_enter Try.func34, Try.ntmps34
  go_wp2_with (first | (go_at_call 69; (with_reducible refine H1.out.mono ?_); rintro e w' ⟨rfl, rfl⟩))
  go_ret
  exact Post.same HO.out r
theorem writeB_nil {w : World} {N g gl cap : Nat} {l : List S72} {q : Bool} (h : AO w N g gl cap l q) (hNw : N ≤ w.heap.size) (p u : Nat) (hp : p < l.length) (ha : aheadL l p = 0) (hpu : (nd l p).f1 = (u : Int)) (hu : u < l.length) (s : ByteArray) (hs : s.toList = [] ∨ kd l u = 1) :
    Calls Try.prog 34 #[.pointer (some ⟨g, 0, none⟩), .int .i64 (p : Int), .string s] w (Post N g q w 0 l) := by
  have HO := hide h
  have H1 := hide (ahead h p hp ha)
  obtain ⟨k, hk0⟩ : ∃ k, kd l u = k := ⟨_, rfl⟩
  have H3 := hide (kind h u hu hk0)
  rw [hk0] at hs
  have c0 := h.c0
  obtain ⟨_, _, hNd, _, _⟩ := h.elem p hp
  have x6 := hNd.c6
  rw [hpu] at x6
  have hp1 : (p : Int) < (l.length : Int) := by omega
  clear h hp ha hk0 hpu hNd hu
  by_cases hs0 : s.toList = []
  · have hs1 : s.toList.isEmpty = true := by rw [hs0]; rfl
    clear hs
    go_enter Try.func34, Try.ntmps34
    go_wp2_with (first | (go_at_call 69; (with_reducible refine H1.out.mono ?_); rintro e w' ⟨rfl, rfl⟩) | (go_at_call 46; (with_reducible refine H3.out.mono ?_); rintro e w' ⟨rfl, rfl⟩))
    go_ret
    exact Post.same HO.out 0
  · obtain rfl : k = 1 := hs.resolve_left hs0
    have hs1 : s.toList.isEmpty = false := by cases h : s.toList with | nil => exact absurd h hs0 | cons _ _ => rfl
    clear hs
    go_enter Try.func34, Try.ntmps34
    go_wp2_with (first | (go_at_call 69; (with_reducible refine H1.out.mono ?_); rintro e w' ⟨rfl, rfl⟩) | (go_at_call 46; (with_reducible refine H3.out.mono ?_); rintro e w' ⟨rfl, rfl⟩))
    go_ret
    exact Post.same HO.out 0
set_option maxHeartbeats 4000000 in
set_option maxRecDepth 100000 in
theorem writeB_put {w : World} {N g gl cap : Nat} {l : List S72} {q : Bool} (h : AO w N g gl cap l q) (hNw : N ≤ w.heap.size) (p u : Nat) (hp : p < l.length) (ha : aheadL l p = 0) (hpu : (nd l p).f1 = (u : Int)) (hu : u < l.length) (s : ByteArray) (hs : ¬ s.toList = []) (hk1 : kd l u ≠ 1) (hlen : l.length ≤ 100000000) (hts : ∀ k : Nat, k < l.length → (nd l k).f0.f4.size + s.size ≤ 1000000000) (hlast : Ref l (nd l p).f4) (hlk : LinkOk (l ++ [newN (txtT s)]) u l.length (p : Int)) :
    Calls Try.prog 34 #[.pointer (some ⟨g, 0, none⟩), .int .i64 (p : Int), .string s] w (Post N g q w 0 (putT l u (nd l p).f4 (p : Int) s)) := by
  have H1 := hide (ahead h p hp ha)
  have hs1 : s.toList.isEmpty = false := by cases h : s.toList with | nil => exact absurd h hs | cons _ _ => rfl
  obtain ⟨k0, hk0⟩ : ∃ k, kd l u = k := ⟨_, rfl⟩
  have H3 := hide (kind h u hu hk0)
  rw [hk0] at hk1
  have e1 : (k0 == 1) = false := by rw [beq_eq_false_iff_ne]; exact hk1
  have HLK := hide hlk
  have H7 : Hid (Calls Try.prog 39 #[.pointer (some ⟨g, 0, none⟩), .agg #[.int .i64 4, .int .i64 0, .string ⟨#[]⟩, .slice none 0 0, .string s, .slice none 0 0]] w fun e w' => e = .returned (.int .i64 (l.length : Int)) ∧ AS w' N g (l ++ [newN (txtT s)]) q ∧ Fr N TA w w') := hide (add h.as hNw (txtT s) rfl (v3 := .slice none 0 0) (ok := fun _ => True) (Kd.R_nil _ _ _ _ _) hlen)
  have c0 := h.c0
  obtain ⟨_, _, hNd, _, _⟩ := h.elem p hp
  have xl := hNd.c9
  have x6 := hNd.c6
  rw [hpu] at x6
  have hp1 : (p : Int) < (l.length : Int) := by omega
  clear hp ha hk0 hk1 hlk hNd hpu hu
  rcases hlast with hb | ⟨k, hb, hk⟩
  · have e : putT l u (nd l p).f4 (p : Int) s = linkL (l ++ [newN (txtT s)]) u l.length (p : Int) := by unfold putT; rw [if_neg (fun h => h.1 hb)]
    rw [e]
    rw [hb] at xl
    have H6 := hide (text_none h s)
    clear h hb e hts hlen hNw
    go_enter Try.func34, Try.ntmps34
    go_wp2_with (first | (go_at_call 69; (with_reducible refine H1.out.mono ?_); rintro e w' ⟨rfl, rfl⟩) | (go_at_call 46; (with_reducible refine H3.out.mono ?_); rintro e w' ⟨rfl, rfl⟩) | (go_at_call 47; (with_reducible refine H6.out.mono ?_); rintro e w' ⟨rfl, rfl⟩) | (go_at_call 39; (with_reducible refine H7.out.mono ?_); rintro e w' ⟨rfl, hA, hF⟩; obtain ⟨gl2, cap2, h2⟩ := hA.open_ (by simp); have H8 := hide (link h2 u l.length (p : Int) HLK.out.1 HLK.out.2.1 HLK.out.2.2.1 HLK.out.2.2.2); have HF2 := hide hF; clear hA hF h2) | (go_at_call 41; (with_reducible refine H8.out.mono ?_); rintro e w' ⟨rfl, hA, hF⟩; have HA3 := hide hA; have HF3 := hide hF; clear hA hF))
    go_ret
    exact ⟨rfl, HA3.out.as, HF2.out.trans HF3.out⟩
  · rw [hb] at xl
    by_cases hk4 : kd l k = 4
    · have e : putT l u (nd l p).f4 (p : Int) s = textL l k s := by unfold putT; rw [hb, Int.toNat_natCast, if_pos ⟨by omega, hk4⟩]
      rw [e]
      have H6 := hide (text_yes h k hk hk4 s (hts k hk))
      clear h hb e hk hk4 hts hlen hNw
      go_enter Try.func34, Try.ntmps34
      go_wp2_with (first | (go_at_call 69; (with_reducible refine H1.out.mono ?_); rintro e w' ⟨rfl, rfl⟩) | (go_at_call 46; (with_reducible refine H3.out.mono ?_); rintro e w' ⟨rfl, rfl⟩) | (go_at_call 47; (with_reducible refine H6.out.mono ?_); rintro e w' ⟨rfl, hA, hF⟩; have HA3 := hide hA; have HF3 := hide hF; clear hA hF))
      go_ret
      exact ⟨rfl, HA3.out.as, HF3.out⟩
    · have e : putT l u (nd l p).f4 (p : Int) s = linkL (l ++ [newN (txtT s)]) u l.length (p : Int) := by unfold putT; rw [hb, Int.toNat_natCast, if_neg (fun h => hk4 h.2)]
      rw [e]
      have H6 := hide (text_no h k hk hk4 s)
      clear h hb e hk hk4 hts hlen hNw
      go_enter Try.func34, Try.ntmps34
      go_wp2_with (first | (go_at_call 69; (with_reducible refine H1.out.mono ?_); rintro e w' ⟨rfl, rfl⟩) | (go_at_call 46; (with_reducible refine H3.out.mono ?_); rintro e w' ⟨rfl, rfl⟩) | (go_at_call 47; (with_reducible refine H6.out.mono ?_); rintro e w' ⟨rfl, rfl⟩) | (go_at_call 39; (with_reducible refine H7.out.mono ?_); rintro e w' ⟨rfl, hA, hF⟩; obtain ⟨gl2, cap2, h2⟩ := hA.open_ (by simp); have H8 := hide (link h2 u l.length (p : Int) HLK.out.1 HLK.out.2.1 HLK.out.2.2.1 HLK.out.2.2.2); have HF2 := hide hF; clear hA hF h2) | (go_at_call 41; (with_reducible refine H8.out.mono ?_); rintro e w' ⟨rfl, hA, hF⟩; have HA3 := hide hA; have HF3 := hide hF; clear hA hF))
      go_ret
      exact ⟨rfl, HA3.out.as, HF2.out.trans HF3.out⟩
theorem writeB {w : World} {N g gl cap : Nat} {l : List S72} {q : Bool} (h : AO w N g gl cap l q) (hNw : N ≤ w.heap.size) (p : Int) (s : ByteArray) (hlen : l.length ≤ 100000000) (hts : ∀ k : Nat, k < l.length → (nd l k).f0.f4.size + s.size ≤ 1000000000) (hlast : ∀ k : Nat, k < l.length → Ref l (nd l k).f4) (hr1 : ∀ k : Nat, k < l.length → Ref l (nd l k).f1) (hlk : ∀ k u : Nat, k < l.length → (nd l k).f1 = (u : Int) → LinkOk (l ++ [newN (txtT s)]) u l.length (k : Int)) :
    Calls Try.prog 34 #[.pointer (some ⟨g, 0, none⟩), .int .i64 p, .string s] w (Post N g q w (writeBL l p s).1 (writeBL l p s).2) := by
  unfold writeBL
  by_cases h1 : inR l p
  · rw [if_pos h1]
    obtain ⟨a, rfl, ha⟩ := toN h1
    simp only [Int.toNat_natCast]
    by_cases h2 : aheadL l a = 0
    · rw [if_pos h2]
      rcases hr1 a ha with h4 | ⟨u, h4, hul⟩
      · exact absurd h4 (aheadL_up h2)
      · rw [h4, Int.toNat_natCast]
        by_cases h3 : s.toList = [] ∨ kd l u = 1
        · rw [if_pos h3]
          exact writeB_nil h hNw a u ha h2 h4 hul s h3
        · rw [if_neg h3]
          exact writeB_put h hNw a u ha h2 h4 hul s (fun e => h3 (.inl e)) (fun e => h3 (.inr e)) hlen hts (hlast a ha) (hlk a u ha h4)
    · rw [if_neg h2]
      exact writeB_ahead h hNw a ha h2 s
  · rw [if_neg h1]
    exact writeB_none h hNw p h1 s
end Go.Proofs.Ytjebpaapkmbahaa.Ar
