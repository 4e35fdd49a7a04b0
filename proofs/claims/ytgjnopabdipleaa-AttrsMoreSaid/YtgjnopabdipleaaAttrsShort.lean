/- arbourkeep.Short, printed over the twin type of AttrsForeign's texts, carried over to this claim's one. -/
import Derived.Test.YtgjnopabdipleaaAttrsFind
import Derived.Test.YtgjnopabdipleaaPAttrsForeignx2
namespace Go.Proofs.Ytgjnopabdipleaa.Attrs
open Go.RowKit Go.Proofs.YtgjnopabdipleaaW.PrintWords Go.Proofs.YtgjnopabdipleaaW.PrintLast
open Go.Proofs.Ytgjnopabdipleaa.PAttrsTells (S29 k29 z29 rd_T29)

abbrev SF := PAttrsForeign.S29
def toF (x : S29) : SF := ⟨x.f0, x.f1⟩
def toT (x : SF) : S29 := ⟨x.f0, x.f1⟩
theorem KF (w : World) (x : S29) (cs : List Value) : PAttrsForeign.k29.K w (toF x) cs ↔ k29.K w x cs := Iff.rfl
theorem MT (w : World) (b : Nat) (ok : Nat → Prop) (x : SF) (cs : List Value) : PAttrsForeign.k29.M w b ok x cs ↔ k29.M w b ok (toT x) cs := Iff.rfl
theorem toF_C {w : World} {A : Option Addr} {xs : List S29} (h : Kd.C k29 w A xs.length xs) : Kd.C PAttrsForeign.k29 w A (xs.map toF).length (xs.map toF) := by
  refine ⟨rfl, by simpa using h.2.1, fun hn => ?_⟩
  obtain ⟨ad, e, hc⟩ := h.2.2 (by simpa using hn)
  refine ⟨ad, e, fun j p hp => ?_⟩
  rw [List.getElem?_map] at hp
  obtain ⟨q, hq, rfl⟩ := Option.map_eq_some_iff.1 hp
  exact hc j q hq
theorem reps_T {w : World} {b : Nat} {ok : Nat → Prop} : ∀ {xs : List SF} {cs : List Value}, Reps (PAttrsForeign.k29.M w b ok) 2 xs cs → Reps (k29.M w b ok) 2 (xs.map toT) cs := by
  intro xs cs h
  refine ⟨by rw [List.length_map]; exact h.1, fun j p hp => ?_⟩
  rw [List.getElem?_map] at hp
  obtain ⟨q, hq, rfl⟩ := Option.map_eq_some_iff.1 hp
  exact h.2 j q hq
theorem toT_R {w : World} {b : Nat} {ok : Nat → Prop} {v : Value} {xs : List SF} (h : Kd.R PAttrsForeign.k29 29 w b ok v xs) : Kd.R k29 29 w b ok v (xs.map toT) := by
  obtain ⟨h0, inner, ho, hr⟩ := h
  exact ⟨h0, inner, by rw [List.length_map]; exact ho, reps_T hr⟩
theorem head_some (s : ByteArray) (n : Int) (h : 0 ≤ n) : ∃ r, PAttrsForeign.arbourkeep_Head.f s n = some r := by
  unfold PAttrsForeign.arbourkeep_Head.f
  by_cases h1 : n < (s.size : Int)
  · rw [if_pos h1, if_pos h, if_pos (by omega)]; exact ⟨_, rfl⟩
  · rw [if_neg h1]; exact ⟨_, rfl⟩
theorem short_loop (ys : List SF) : ∀ (d k i : Nat) (acc : List SF), 6 - i = d → i ≤ 6 → acc.length = i → 2 * d + 3 < k → ∃ r, PAttrsForeign.arbourkeep_Short.l0 k ys acc (i : Int) = some r ∧ r.length ≤ 6 := by
  intro d
  induction d with
  | zero =>
    intro k i acc hd hi ha hk
    obtain ⟨m, rfl⟩ : ∃ m, k = m + 1 + 1 := ⟨k - 2, by omega⟩
    unfold PAttrsForeign.arbourkeep_Short.l0
    refine ⟨acc, ?_, by omega⟩
    have e6 : decide ((i : Int) < 6) = false := decide_eq_false (by omega)
    rw [e6]
    split <;> (unfold PAttrsForeign.arbourkeep_Short.j1; rw [if_neg (by decide)])
  | succ d ih =>
    intro k i acc hd hi ha hk
    obtain ⟨m, rfl⟩ : ∃ m, k = m + 1 + 1 := ⟨k - 2, by omega⟩
    unfold PAttrsForeign.arbourkeep_Short.l0
    have e6 : decide ((i : Int) < 6) = true := decide_eq_true (by omega)
    rw [e6]
    by_cases hl : (i : Int) < (ys.length : Int)
    · rw [if_pos hl]
      unfold PAttrsForeign.arbourkeep_Short.j1
      rw [if_pos rfl, if_pos (by omega), if_pos hl]
      obtain ⟨r0, h0⟩ := head_some (PAttrsForeign.rd_T29 ys i).f0 20 (by omega)
      obtain ⟨r1, h1⟩ := head_some (PAttrsForeign.rd_T29 ys i).f1 30 (by omega)
      have ew : wrap64 ((i : Int) + 1) = ((i + 1 : Nat) : Int) := by unfold wrap64; omega
      rw [h0, Option.bind_some, h1, Option.bind_some, if_pos (by omega), ew]
      exact ih m (i + 1) _ (by omega) (by omega) (by simp; omega) (by omega)
    · rw [if_neg hl]
      unfold PAttrsForeign.arbourkeep_Short.j1
      rw [if_neg (by decide)]
      exact ⟨acc, rfl, by omega⟩
/-- Short: six attributes or less, in memory of its own. -/
theorem short (A : Option Addr) (c : Nat) (xs : List S29) (w : World) (h : Rds w A c xs) :
    Calls Try.prog 7 #[.slice A xs.length c] w fun e w' => ∃ ys : List S29, ys.length ≤ 6 ∧ RowPost ys w e w' := by
  obtain ⟨r, hr, hl⟩ := short_loop (xs.map toF) 6 20 0 [] rfl (by omega) rfl (by omega)
  have hc := PAttrsForeign.arbourkeep_Short.calls 20 A c (xs.map toF) r w (toF_C h.1) (by simpa using h.2) hr
  rw [List.length_map] at hc
  refine hc.mono ?_
  rintro e w' ⟨v, rfl, hR, hb⟩
  exact ⟨r.map toT, by simpa using hl, v, rfl, toT_R hR, hb⟩
end Go.Proofs.Ytgjnopabdipleaa.Attrs
