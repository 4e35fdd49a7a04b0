/- Whether an operation's texts may be written: the closure, slices.IndexFunc, slices.ContainsFunc and op.fits walked. -/
import Derived.Test.YtbljbgjecnmeeaaDoorOpPure
import Derived.WalkSpells
import Derived.BigQuiet
import Derived.Deep.QuietTactic
import Derived.Below
import Derived.IntWalk
import Derived.WalkLawsBesides
namespace Go.Proofs.YtbljbgjecnmeeaaDoor.OpP
open Go.RowKit Go.Proofs.YtbljbgjecnmeeaaDoor.POpTells Go.Proofs.YtbljbgjecnmeeaaDoorW.PrintWords Go.Proofs.YtbljbgjecnmeeaaDoorW.PrintLast
set_option linter.unusedVariables false
set_option linter.unusedSimpArgs false
/-- Is an attribute too long to be written? -/
def longB (x : S32) : Bool := decide (16777215 < x.f0.size) || decide (16777215 < x.f1.size)
set_option maxHeartbeats 1000000 in
set_option maxRecDepth 100000 in
theorem long_ (x : S32) (w : World) : Calls Tryd.prog 43 #[.agg #[.string x.f0, .string x.f1]] w fun e w' => e = .returned (.bool (longB x)) ∧ Below w.heap.size w w' := by
  obtain ⟨a, b⟩ := x
  unfold longB
  dsimp only
  by_cases h0 : 16777215 < a.size
  · rw [decide_eq_true h0, Bool.true_or]
    have k0 : (16777215 : Int) < (a.size : Int) := by omega
    go_enter Tryd.func43, Tryd.ntmps43
    go_wp2
    go_ret
    exact ⟨rfl, below_alloc (Below.refl _ _) _⟩
  · rw [decide_eq_false h0, Bool.false_or]
    have k0 : ¬ (16777215 : Int) < (a.size : Int) := by omega
    by_cases h1 : 16777215 < b.size
    · rw [decide_eq_true h1]
      have k1 : (16777215 : Int) < (b.size : Int) := by omega
      go_enter Tryd.func43, Tryd.ntmps43
      go_wp2
      go_ret
      exact ⟨rfl, below_alloc (Below.refl _ _) _⟩
    · rw [decide_eq_false h1]
      have k1 : ¬ (16777215 : Int) < (b.size : Int) := by omega
      go_enter Tryd.func43, Tryd.ntmps43
      go_wp2
      go_ret
      exact ⟨rfl, below_alloc (Below.refl _ _) _⟩
def fndFrom : List S32 → Nat → Int
  | [], _ => -1
  | x :: xs, i => if longB x = true then (i : Int) else fndFrom xs (i + 1)
/-- The place of the first attribute that is too long; -1 of none. -/
def fnd (xs : List S32) : Int := fndFrom xs 0
theorem fnd_step (xs : List S32) (k : Nat) (h : k < xs.length) : fndFrom (xs.drop k) k = if longB (xs.getD k z32) = true then (k : Int) else fndFrom (xs.drop (k + 1)) (k + 1) := by
  rw [List.drop_eq_getElem_cons h, List.getD_eq_getElem?_getD, List.getElem?_eq_getElem h]
  rfl
theorem fnd_end (xs : List S32) (k : Nat) (h : xs.length ≤ k) : fndFrom (xs.drop k) k = -1 := by
  rw [List.drop_of_length_le h]; rfl
theorem fnd_any : ∀ (xs : List S32) (i : Nat), decide (0 ≤ fndFrom xs i) = xs.any longB
  | [], _ => rfl
  | x :: xs, i => by
    unfold fndFrom
    rw [List.any_cons]
    cases longB x with
    | true => rw [if_pos rfl, Bool.true_or, decide_eq_true (by omega)]
    | false => rw [if_neg (by decide), Bool.false_or]; exact fnd_any xs (i + 1)
set_option maxHeartbeats 1000000 in
set_option maxRecDepth 100000 in
theorem indexFunc (A : Option Addr) (c : Nat) (xs : List S32) (w : World) (h : k32.C w A xs.length xs) :
    Calls Tryd.prog 49 #[.slice A xs.length c, .func (.func 43) #[] #[]] w fun e w' => e = .returned (.int .i64 (fnd xs)) ∧ Below w.heap.size w w' := by
  have HC := hide h
  have hlen := h.2.1
  clear h
  obtain ⟨n, hn⟩ : ∃ n, xs.length = n := ⟨_, rfl⟩
  have HN := hide hn
  rw [hn] at hlen ⊢
  clear hn
  go_enter Tryd.func49, Tryd.ntmps49
  go_wp2_with fail
  go_loopw [5, 8] (fun _ i wr => ∃ k : Nat, k ≤ n ∧ i = .int .i64 k ∧ Aside0 (fndFrom (xs.drop k) k = fnd xs) ∧ Aside0 (Below w.heap.size w wr)) (fun _ i _ => n - (intOf i).toNat)
  case atStart => exact ⟨0, by omega, rfl, ⟨rfl⟩, ⟨Below.refl _ _⟩⟩
  case round =>
    obtain ⟨k, hk, rfl, HF, HB⟩ := hrel
    by_cases hlt : k < n
    · have hkl : k < xs.length := by rw [HN.out]; exact hlt
      obtain ⟨ad, hA, hc0, hc1⟩ := at_T32 (Kd.C_below HC.out HB.out) (k : Int) (by omega) (by have := HN.out; omega)
      subst hA
      have hstep := fnd_step xs k hkl
      rw [HF.out] at hstep
      unfold rd_T32 at hc0 hc1
      rw [Int.toNat_natCast] at hc0 hc1
      obtain ⟨x, hx⟩ : ∃ x, xs.getD k z32 = x := ⟨_, rfl⟩
      rw [hx] at hc0 hc1 hstep
      obtain ⟨a, b⟩ := x
      dsimp only at hc0 hc1
      have HS := hide hstep
      clear hstep hx
      have k1 : (k : Int) < n := by omega
      go_wp2_with fail
      refine (long_ ⟨a, b⟩ wr).mono ?_
      rintro e w2 ⟨rfl, hb2⟩
      have HB2 := hide (below_step HB.out hb2)
      clear hb2
      obtain ⟨q, hq⟩ : ∃ q, longB ⟨a, b⟩ = q := ⟨_, rfl⟩
      have HS2 := HS.out
      rw [hq] at HS2 ⊢
      clear hq HS
      cases q
      · have HS3 := hide HS2
        clear HS2
        dsimp only
        go_wp2_with fail
        go_roundw
        case rel => exact ⟨k + 1, by omega, by go_num, ⟨by have := HS3.out; rw [if_neg (by decide)] at this; exact this.symm⟩, ⟨HB2.out⟩⟩
        case measure => simp only [intOf]; omega
      · have HS3 := hide HS2
        clear HS2
        dsimp only
        go_wp2_with fail
        go_ret
        exact ⟨by rw [HS3.out]; rfl, HB2.out⟩
    · have hke : fndFrom (xs.drop k) k = -1 := fnd_end xs k (by rw [HN.out]; omega)
      have HK := hide hke
      clear hke
      go_wp2_with fail
      go_ret
      exact ⟨by rw [← HF.out, HK.out]; rfl, HB.out⟩
set_option maxHeartbeats 1000000 in
set_option maxRecDepth 100000 in
theorem containsFunc (A : Option Addr) (c : Nat) (xs : List S32) (w : World) (h : k32.C w A xs.length xs) :
    Calls Tryd.prog 42 #[.slice A xs.length c, .func (.func 43) #[] #[]] w fun e w' => e = .returned (.bool (xs.any longB)) ∧ Below w.heap.size w w' := by
  have hz := fnd_any xs 0
  obtain ⟨q, hq⟩ : ∃ q, xs.any longB = q := ⟨_, rfl⟩
  obtain ⟨z, hz'⟩ : ∃ z, fnd xs = z := ⟨_, rfl⟩
  have hz2 : decide (0 ≤ z) = q := by rw [← hz', ← hq]; exact hz
  rw [hq]
  have HI := hide (indexFunc A c xs w h)
  rw [hz'] at HI
  clear hz hq hz' h
  go_enter Tryd.func42, Tryd.ntmps42
  go_wp2_with (go_at_call 49; (refine HI.out.mono ?_); rintro e w2 ⟨rfl, hb2⟩; dsimp only)
  go_ret
  exact ⟨rfl, hb2⟩
def fitsB (o : S24) : Bool := decide (o.f6.size ≤ 16777215) && (decide (o.f8.size ≤ 16777215) && (decide (o.f7.length ≤ 65535) && !(o.f7.any longB)))
set_option maxHeartbeats 4000000 in
set_option maxRecDepth 100000 in
theorem fits (o : S24) (A : Option Addr) (c : Nat) (w : World) (hC : k32.C w A o.f7.length o.f7) :
    Calls Tryd.prog 30 #[.agg #[.int .i64 o.f0, .int .i64 o.f1, .int .i64 o.f2, .int .i64 o.f3, .int .i64 o.f4, .int .i64 o.f5, .string o.f6, .slice A o.f7.length c, .string o.f8]] w fun e w' => e = .returned (.bool (fitsB o)) ∧ Below w.heap.size w w' := by
  obtain ⟨o0, o1, o2, o3, o4, o5, o6, o7, o8⟩ := o
  unfold fitsB
  dsimp only at hC ⊢
  have b1 := below_alloc (Below.refl w.heap.size w) (.cells #[.int .i64 o0, .int .i64 o1, .int .i64 o2, .int .i64 o3, .int .i64 o4, .int .i64 o5, .string o6, .slice A o7.length c, .string o8] 24)
  by_cases h6 : o6.size ≤ 16777215
  · rw [decide_eq_true h6, Bool.true_and]
    have k6 : ¬ (16777215 : Int) < (o6.size : Int) := by omega
    by_cases h8 : o8.size ≤ 16777215
    · rw [decide_eq_true h8, Bool.true_and]
      have k8 : ¬ (16777215 : Int) < (o8.size : Int) := by omega
      by_cases h7 : o7.length ≤ 65535
      · rw [decide_eq_true h7, Bool.true_and]
        have k7 : ¬ (65535 : Int) < (o7.length : Int) := by omega
        have HCF := hide (containsFunc A c o7 _ (Kd.C_below hC b1))
        have HB1 := hide b1
        clear hC b1 h6 h8 h7
        obtain ⟨q, hq⟩ : ∃ q, o7.any longB = q := ⟨_, rfl⟩
        rw [hq] at HCF ⊢
        clear hq
        go_enter Tryd.func30, Tryd.ntmps30
        go_wp2_with (go_at_call 42; (refine HCF.out.mono ?_); rintro e w2 ⟨rfl, hb2⟩; dsimp only)
        go_ret
        exact ⟨rfl, below_step HB1.out hb2⟩
      · rw [decide_eq_false h7, Bool.false_and]
        have k7 : (65535 : Int) < (o7.length : Int) := by omega
        have HB1 := hide b1
        clear hC b1 h6 h8 h7
        go_enter Tryd.func30, Tryd.ntmps30
        go_wp2
        go_ret
        exact ⟨rfl, HB1.out⟩
    · rw [decide_eq_false h8, Bool.false_and]
      have k8 : (16777215 : Int) < (o8.size : Int) := by omega
      have HB1 := hide b1
      clear hC b1 h6 h8
      go_enter Tryd.func30, Tryd.ntmps30
      go_wp2
      go_ret
      exact ⟨rfl, HB1.out⟩
  · rw [decide_eq_false h6, Bool.false_and]
    have k6 : (16777215 : Int) < (o6.size : Int) := by omega
    have HB1 := hide b1
    clear hC b1 h6
    go_enter Tryd.func30, Tryd.ntmps30
    go_wp2
    go_ret
    exact ⟨rfl, HB1.out⟩
end Go.Proofs.YtbljbgjecnmeeaaDoor.OpP
