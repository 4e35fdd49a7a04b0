/- The arena's More. -/
import Derived.Test.YtjebpaapkmbahaaArOps
import Derived.Test.YtjebpaapkmbahaaArUnique
namespace Go.Proofs.Ytjebpaapkmbahaa.Ar
open Go.RowKit Go.Proofs.Ytjebpaapkmbahaa.PArenaPlays Go.Proofs.YtjebpaapkmbahaaW.PrintWords Go.Proofs.YtjebpaapkmbahaaW.PrintLast
set_option linter.unusedVariables false
set_option linter.unusedSimpArgs false
def moreA (l : List S72) (n : Int) (a : List S62) : Int × List S72 :=
  if inR l n then (if kd l n.toNat = 3 then (0, l.set n.toNat (sA (nd l n.toNat) (moreL (nd l n.toNat).f0.f3 a))) else (23, l)) else (22, l)
set_option maxHeartbeats 4000000 in
set_option maxRecDepth 100000 in
theorem more_yes {w : World} {N g gl cap : Nat} {l : List S72} {q : Bool} (h : AO w N g gl cap l q) (hNw : N ≤ w.heap.size) (n : Nat) (hn : n < l.length) (hk : kd l n = 3) (B : Option Addr) (d : Nat) (a : List S62) (ha : Rds w B d a) (hal : a.length ≤ 100000) (hxl : (nd l n).f0.f3.length ≤ 100000) :
    Calls Try.prog 56 #[.pointer (some ⟨g, 0, none⟩), .int .i64 (n : Int), .slice B a.length d] w (Post N g q w 0 (l.set n (sA (nd l n) (moreL (nd l n).f0.f3 a)))) := by
  have H1 := hide (is_yes h n hn)
  have H2 := hide (kind h n hn hk)
  obtain ⟨v3, v5, hNd, g3, _⟩ := h.elem n hn
  obtain ⟨A3, c3, rfl, hl3, hC3⟩ := Kd.R_reads g3
  have c0 := h.c0
  have x3 := hNd.c3
  have HO := hide h
  have hn1 : (n : Int) < (l.length : Int) := by omega
  obtain ⟨xs, hx⟩ : ∃ xs, (nd l n).f0.f3 = xs := ⟨_, rfl⟩
  rw [hx] at x3 hl3 hC3 hxl ⊢
  have HX := hide hx
  have HNw := hide hNw
  have HN := hide hn
  have H3 := hide (fun (V : World) (hV : Below w.heap.size w V) => more A3 B c3 d xs a V ⟨Kd.C_below hC3 hV, hl3⟩ ⟨Kd.C_below ha.1 hV, ha.2⟩ (by omega))
  clear h hNd g3 hl3 hC3 hk hn ha hal hxl hNw hx
  obtain ⟨xn, hxn⟩ : ∃ n, xs.length = n := ⟨_, rfl⟩
  obtain ⟨an, han⟩ : ∃ n, a.length = n := ⟨_, rfl⟩
  rw [hxn, han] at H3
  rw [hxn] at x3
  rw [han]
  clear hxn han
  go_enter Try.func56, Try.ntmps56
  go_upto_region 5 with (first | (go_at_call 42; (with_reducible refine H1.out.mono ?_); rintro e w' ⟨rfl, rfl⟩) | (go_at_call 46; (with_reducible refine H2.out.mono ?_); rintro e w' ⟨rfl, rfl⟩))
  go_region_with (go_at_call 78; (with_reducible refine (H3.out (w.drew) (below_drew (Below.refl _ _))).mono ?_); rintro e w1 ⟨v, rfl, hR, hB⟩; obtain ⟨Av, cv, rfl⟩ := Kd.R_slice hR; have HR := hide hR; have HB := hide hB; have h1 := HO.out.below (below_step (below_drew (Below.refl _ _)) hB); have c1 := h1.c0; have f3 := h1.fz (n * 12 + 3); obtain ⟨_, _, hNd, _, _⟩ := h1.elem n HN.out; have y3 := hNd.c3; have HO1 := hide h1; clear h1 hNd hR hB)
  all_goals (
    go_wp2_with fail
    go_ret
    have hA := HO1.out.sA n HN.out (Kd.R_lower HR.out HNw.out)
    have hF := HO1.out.frS (Fr.of_below (T := TA) (below_step (below_drew (Below.refl _ _)) HB.out) HNw.out) (n * 12 + 3) (.slice Av (moreL xs a).length cv)
    first
    | exact ⟨rfl, hA.as, hF⟩
    | exact ⟨rfl, (hA.below (below_drew (Below.refl _ _))).as, hF.then_ (below_drew (Below.refl _ _)) HNw.out⟩)
theorem more_op {w : World} {N g gl cap : Nat} {l : List S72} {q : Bool} (h : AO w N g gl cap l q) (hNw : N ≤ w.heap.size) (n : Int) (B : Option Addr) (d : Nat) (a : List S62) (ha : Rds w B d a) (hal : a.length ≤ 100000) (hxl : ∀ k : Nat, k < l.length → (nd l k).f0.f3.length ≤ 100000) :
    Calls Try.prog 56 #[.pointer (some ⟨g, 0, none⟩), .int .i64 n, .slice B a.length d] w (Post N g q w (moreA l n a).1 (moreA l n a).2) := by
  unfold moreA
  by_cases h1 : inR l n
  · rw [if_pos h1]
    obtain ⟨k, rfl, hk⟩ := toN h1
    simp only [Int.toNat_natCast]
    by_cases h2 : kd l k = 3
    · rw [if_pos h2]
      exact more_yes h hNw k hk h2 B d a ha hal (hxl k hk)
    · rw [if_neg h2]
      have HO := hide h
      obtain ⟨kk, hk0⟩ : ∃ kk, kd l k = kk := ⟨_, rfl⟩
      have H1 := hide (is_yes h k hk)
      have H2 := hide (kind h k hk hk0)
      rw [hk0] at h2
      have e1 : (kk == 3) = false := by rw [beq_eq_false_iff_ne]; exact h2
      have e2 : (kk != 3) = true := by rw [bne_iff_ne]; exact h2
      clear h h1 h2 hk0 hk ha hal hxl
      go_enter Try.func56, Try.ntmps56
      go_wp2_with (first | (go_at_call 42; (with_reducible refine H1.out.mono ?_); rintro e w' ⟨rfl, rfl⟩) | (go_at_call 46; (with_reducible refine H2.out.mono ?_); rintro e w' ⟨rfl, rfl⟩))
      go_ret
      exact Post.same HO.out 23
  · rw [if_neg h1]
    have HO := hide h
    have H1 := hide (is_no h n h1)
    clear h h1 ha hal hxl
    go_enter Try.func56, Try.ntmps56
    go_wp2_with (go_at_call 42; (with_reducible refine H1.out.mono ?_); rintro e w' ⟨rfl, rfl⟩)
    go_ret
    exact Post.same HO.out 22
end Go.Proofs.Ytjebpaapkmbahaa.Ar
