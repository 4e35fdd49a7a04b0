/- Plain laws: trees held against one another; the way to the first difference; the same told by a stack. -/
import Derived.Test.YteglfgmgpbablaaDoorPCompareTellsx5
namespace Go.Proofs.YteglfgmgpbablaaDoor.Cmp
open Go.RowKit Go.Proofs.YteglfgmgpbablaaDoor.PCompareTells Go.Proofs.YteglfgmgpbablaaDoorW.PrintWords Go.Proofs.YteglfgmgpbablaaDoorW.PrintLast
def sameA : List S47 → List S47 → Bool
  | [], [] => true
  | a :: l, b :: m => a.f0.toList == b.f0.toList && a.f1.toList == b.f1.toList && sameA l m
  | _, _ => false
theorem sameA_len : ∀ (l m : List S47), sameA l m = true → l.length = m.length
  | [], [], _ => rfl
  | _ :: l, _ :: m, h => by
    simp only [sameA, Bool.and_eq_true] at h
    simp [sameA_len l m h.2]
theorem drop_at (l : List S47) (i : Nat) (h : i < l.length) : l.drop i = rd_T47 l (i : Int) :: l.drop (i + 1) := by
  rw [List.drop_eq_getElem_cons h]
  unfold rd_T47
  simp [List.getD, h]
theorem refSame_loop (l m : List S47) (hl : l.length = m.length) (hb : l.length ≤ 1000000000) : ∀ d i k, l.length - i = d → i ≤ l.length → d < k → arbourref7_Same.l0 k l m (i : Int) = some (sameA (l.drop i) (m.drop i))
  | 0, i, k, hd, hi, hk => by
    obtain ⟨k, rfl⟩ : ∃ m, k = m + 1 := ⟨k - 1, by omega⟩
    rw [arbourref7_Same.l0, if_neg (by omega), List.drop_eq_nil_of_le (by omega), List.drop_eq_nil_of_le (by omega)]
    rfl
  | d + 1, i, k, hd, hi, hk => by
    obtain ⟨k, rfl⟩ : ∃ m, k = m + 1 := ⟨k - 1, by omega⟩
    rw [arbourref7_Same.l0, if_pos (by omega), if_pos (by omega), if_pos (by omega), show wrap64 ((i : Int) + 1) = ((i + 1 : Nat) : Int) from by rw [IntWalk.wrap64_in _ (by omega)]; rfl, refSame_loop l m hl hb d (i + 1) k (by omega) (by omega) (by omega), drop_at l i (by omega), drop_at m i (by omega), sameA]
    cases ((rd_T47 l (i : Int)).f0.toList == (rd_T47 m (i : Int)).f0.toList) <;> cases ((rd_T47 l (i : Int)).f1.toList == (rd_T47 m (i : Int)).f1.toList) <;> simp
theorem refSame (l m : List S47) (hb : l.length ≤ 1000000000) (k : Nat) (hk : l.length < k) : arbourref7_Same.f k l m = some (sameA l m) := by
  unfold arbourref7_Same.f
  by_cases h : l.length = m.length
  · rw [if_pos (by omega)]
    have := refSame_loop l m h hb l.length 0 k (by omega) (by omega) hk
    simpa using this
  · rw [if_neg (by omega)]
    cases e : sameA l m with
    | false => rfl
    | true => exact absurd (sameA_len l m e) h
theorem attrSame_loop (l m : List S47) (hl : l.length = m.length) (hb : l.length ≤ 1000000000) : ∀ d i k, l.length - i = d → i ≤ l.length → d < k → api_Attr.l0 k l m (l.length : Int) (i : Int) = some (sameA (l.drop i) (m.drop i))
  | 0, i, k, hd, hi, hk => by
    obtain ⟨k, rfl⟩ : ∃ m, k = m + 1 := ⟨k - 1, by omega⟩
    rw [api_Attr.l0, if_neg (by omega), List.drop_eq_nil_of_le (by omega), List.drop_eq_nil_of_le (by omega)]
    rfl
  | d + 1, i, k, hd, hi, hk => by
    obtain ⟨k, rfl⟩ : ∃ m, k = m + 1 := ⟨k - 1, by omega⟩
    rw [api_Attr.l0, if_pos (by omega), if_pos (by omega), if_pos (by omega), if_pos (by omega), show wrap64 ((i : Int) + 1) = ((i + 1 : Nat) : Int) from by rw [IntWalk.wrap64_in _ (by omega)]; rfl, attrSame_loop l m hl hb d (i + 1) k (by omega) (by omega) (by omega), drop_at l i (by omega), drop_at m i (by omega), sameA]
    cases ((rd_T47 l (i : Int)).f0.toList == (rd_T47 m (i : Int)).f0.toList) <;> cases ((rd_T47 l (i : Int)).f1.toList == (rd_T47 m (i : Int)).f1.toList) <;> simp
theorem attrSame (l m : List S47) (hb : l.length ≤ 1000000000) (k : Nat) (hk : l.length < k) : attrs_Same.f k l m = some (sameA l m) := by
  unfold attrs_Same.f api_Attr.f
  by_cases h : l.length = m.length
  · rw [if_pos (by omega)]
    have := attrSame_loop l m h hb l.length 0 k (by omega) (by omega) hk
    rw [show ((0 : Nat) : Int) = 0 from rfl, List.drop_zero, List.drop_zero] at this
    rw [this]
    rfl
  · rw [if_neg (by omega)]
    cases e : sameA l m with
    | false => rfl
    | true => exact absurd (sameA_len l m e) h
/-- Are two nodes the same, but for their kids? -/
def labL (a b : S26) : Bool := a.f0 == b.f0 && (a.f1 == b.f1 && (a.f2.toList == b.f2.toList && (sameA a.f3 b.f3 && a.f4.toList == b.f4.toList)))
theorem refLabel (a b : S26) (hb : a.f3.length ≤ 1000000000) (k : Nat) (hk : a.f3.length < k) : arbourref14_Label.f k a.f0 a.f1 a.f2 a.f3 a.f4 a.f5 b.f0 b.f1 b.f2 b.f3 b.f4 b.f5 = some (labL a b) := by
  unfold arbourref14_Label.f labL
  rw [refSame _ _ hb k hk]
  by_cases h0 : a.f0 = b.f0
  · by_cases h1 : a.f1 = b.f1
    · by_cases h2 : a.f2.toList = b.f2.toList
      · by_cases h4 : a.f4.toList = b.f4.toList
        · rw [if_pos h0, if_pos h1, if_pos h2, if_pos h4, h0, h1, h2, h4]
          simp
        · rw [if_pos h0, if_pos h1, if_pos h2, if_neg h4, beq_eq_false_iff_ne.2 h4]
          simp
      · rw [if_pos h0, if_pos h1, if_neg h2, beq_eq_false_iff_ne.2 h2]
        simp
    · rw [if_pos h0, if_neg h1, beq_eq_false_iff_ne.2 h1]
      simp
  · rw [if_neg h0, beq_eq_false_iff_ne.2 h0]
    simp
mutual
/-- The way to the first difference; none: there is none. -/
def dif : S26 → S26 → Option (List Int)
  | ⟨a0, a1, a2, a3, a4, a5⟩, b => if labL ⟨a0, a1, a2, a3, a4, []⟩ b then difK a5 b.f5 0 else some []
def difK : List S26 → List S26 → Int → Option (List Int)
  | [], [], _ => none
  | [], _ :: _, i => some [i]
  | _ :: _, [], i => some [i]
  | x :: l, y :: m, i => match dif x y with
    | some p => some (i :: p)
    | none => difK l m (i + 1)
end
mutual
/-- A weight of trees. -/
def W : S26 → Nat
  | ⟨_, _, _, _, _, k⟩ => 1 + WK k
def WK : List S26 → Nat
  | [] => 0
  | x :: l => 1 + W x + WK l
end
mutual
/-- No node has more attributes than this. -/
def AL (n : Nat) : S26 → Prop
  | ⟨_, _, _, a, _, k⟩ => a.length ≤ n ∧ ALK n k
def ALK (n : Nat) : List S26 → Prop
  | [] => True
  | x :: l => AL n x ∧ ALK n l
end
theorem dif_eq (a b : S26) : dif a b = if labL a b then difK a.f5 b.f5 0 else some [] := by
  obtain ⟨a0, a1, a2, a3, a4, a5⟩ := a
  rw [dif]
  rfl
theorem W_eq (a : S26) : W a = 1 + WK a.f5 := by
  obtain ⟨a0, a1, a2, a3, a4, a5⟩ := a
  rw [W]
theorem AL_eq (n : Nat) (a : S26) : AL n a = (a.f3.length ≤ n ∧ ALK n a.f5) := by
  obtain ⟨a0, a1, a2, a3, a4, a5⟩ := a
  rw [AL]
mutual
theorem dif_len : ∀ (a b : S26) (p : List Int), dif a b = some p → p.length ≤ W a
  | ⟨a0, a1, a2, a3, a4, a5⟩, b, p, h => by
    rw [dif] at h
    rw [W]
    split at h
    · have := difK_len a5 b.f5 0 p h
      omega
    · cases h; simp
theorem difK_len : ∀ (l m : List S26) (i : Int) (p : List Int), difK l m i = some p → p.length ≤ 1 + WK l
  | [], [], _, p, h => by rw [difK] at h; cases h
  | [], _ :: _, i, p, h => by rw [difK] at h; cases h; simp
  | _ :: _, [], i, p, h => by rw [difK] at h; cases h; simp
  | x :: l, y :: m, i, p, h => by
    rw [difK] at h
    rw [WK]
    cases e : dif x y with
    | some q =>
      rw [e] at h
      cases h
      have := dif_len x y q e
      simp only [List.length_cons]
      omega
    | none =>
      rw [e] at h
      have := difK_len l m (i + 1) p h
      omega
end
def resD (o : Option (List Int)) : List Int × Bool := match o with
  | some p => (p, false)
  | none => ([], true)
theorem rd26 (l : List S26) (i : Nat) (h : i < l.length) : l.drop i = rd_T26 l (i : Int) :: l.drop (i + 1) := by
  rw [List.drop_eq_getElem_cons h]
  unfold rd_T26
  simp [List.getD, h]
theorem WK_drop : ∀ (l : List S26) (i : Nat), WK (l.drop i) ≤ WK l
  | [], i => by simp
  | x :: l, 0 => by simp
  | x :: l, i + 1 => by
    have := WK_drop l i
    rw [List.drop_succ_cons, WK]
    omega
theorem WK_len : ∀ (l : List S26), l.length ≤ WK l
  | [] => by simp
  | x :: l => by
    have := WK_len l
    rw [WK, List.length_cons]
    omega
theorem WK_at (l : List S26) (i : Nat) (h : i < l.length) : W (rd_T26 l (i : Int)) + 1 + WK (l.drop (i + 1)) ≤ WK l := by
  have := WK_drop l i
  rw [rd26 l i h, WK] at this
  omega
theorem ALK_at (n : Nat) : ∀ (l : List S26) (i : Nat), i < l.length → ALK n l → AL n (rd_T26 l (i : Int))
  | [], i, h, _ => by simp at h
  | x :: l, 0, _, h => by rw [ALK] at h; exact h.1
  | x :: l, i + 1, h, ha => by
    rw [ALK] at ha
    have := ALK_at n l i (by simpa using h) ha.2
    have e : rd_T26 (x :: l) ((i + 1 : Nat) : Int) = rd_T26 l (i : Int) := by unfold rd_T26; simp
    rw [e]
    exact this
abbrev DF (k : Nat) (a b : S26) : Option (List Int × Bool) := arbourref14_Diff.f k a.f0 a.f1 a.f2 a.f3 a.f4 a.f5 b.f0 b.f1 b.f2 b.f3 b.f4 b.f5
abbrev DL (k : Nat) (i : Int) (a b : S26) : Option (List Int × Bool) := arbourref14_Diff.l0 k i a.f0 a.f1 a.f2 a.f3 a.f4 a.f5 b.f0 b.f1 b.f2 b.f3 b.f4 b.f5
theorem refDiff (n : Nat) (hn : n ≤ 1000000000) : ∀ (s : Nat) (a b : S26), W a ≤ s → W a ≤ 1000000000 → AL n a → ∀ k, n + 4 * W a + 4 ≤ k → DF k a b = some (resD (dif a b)) := by
  intro s
  induction s with
  | zero => intro a b h; rw [W_eq] at h; omega
  | succ s ih =>
    intro a b hs hW hal k hk
    rw [AL_eq] at hal
    have hWa := W_eq a
    have hloop : ∀ d i k, a.f5.length - i = d → i ≤ a.f5.length → n + 4 * WK (a.f5.drop i) + 4 ≤ k → DL k (i : Int) a b = some (resD (difK (a.f5.drop i) (b.f5.drop i) (i : Int))) := by
      intro d
      induction d with
      | zero =>
        intro i k hd hi hk
        obtain ⟨k, rfl⟩ : ∃ m, k = m + 3 := ⟨k - 3, by omega⟩
        have he : a.f5.drop i = [] := List.drop_eq_nil_of_le (by omega)
        unfold DL
        rw [he, arbourref14_Diff.l0, if_neg (by omega), arbourref14_Diff.j1]
        by_cases hb : i < b.f5.length
        · rw [if_pos (by simpa using hb), if_pos (by omega), arbourref14_Diff.j2, if_pos rfl, rd26 b.f5 i hb, difK]
          rfl
        · rw [if_neg (by simpa using hb), List.drop_eq_nil_of_le (by omega), difK]
          rfl
      | succ d ihd =>
        intro i k hd hi hk
        obtain ⟨k, rfl⟩ : ∃ m, k = m + 3 := ⟨k - 3, by omega⟩
        have hlt : i < a.f5.length := by omega
        have hat := WK_at a.f5 i hlt
        have hWd := WK_drop a.f5 i
        have hdr := rd26 a.f5 i hlt
        have hWi : WK (a.f5.drop i) = 1 + W (rd_T26 a.f5 (i : Int)) + WK (a.f5.drop (i + 1)) := by rw [hdr, WK]
        unfold DL
        rw [arbourref14_Diff.l0, if_pos (by omega), arbourref14_Diff.j1, if_pos rfl, if_neg (by omega), hdr]
        by_cases hb : i < b.f5.length
        · have hx := ih (rd_T26 a.f5 (i : Int)) (rd_T26 b.f5 (i : Int)) (by omega) (by omega) (ALK_at n _ i hlt hal.2) k (by omega)
          rw [arbourref14_Diff.j2, if_neg (by simpa using hb), if_pos (by omega), if_pos (by omega), if_pos (by omega), rd26 b.f5 i hb, difK]
          unfold DF at hx
          rw [hx]
          cases e : dif (rd_T26 a.f5 (i : Int)) (rd_T26 b.f5 (i : Int)) with
          | none =>
            have := ihd (i + 1) k (by omega) (by omega) (by omega)
            simp only [resD, Option.bind_some, if_true]
            rw [show wrap64 ((i : Int) + 1) = ((i + 1 : Nat) : Int) from by have := WK_len a.f5; rw [IntWalk.wrap64_in _ (by omega)]; rfl]
            exact this
          | some p =>
            have hp := dif_len _ _ p e
            simp only [resD, Option.bind_some]
            rw [if_neg (by decide), if_pos (by simp; omega)]
            rfl
        · rw [arbourref14_Diff.j2, if_pos (by simpa using hb), List.drop_eq_nil_of_le (show b.f5.length ≤ i by omega), difK]
          rfl
    obtain ⟨k, rfl⟩ : ∃ m, k = m + 1 := ⟨k - 1, by omega⟩
    unfold DF
    rw [arbourref14_Diff.f, refLabel a b (by omega) k (by omega), Option.bind_some, dif_eq]
    cases e : labL a b with
    | false => rfl
    | true =>
      have := hloop a.f5.length 0 k (by omega) (by omega) (by rw [List.drop_zero]; omega)
      rw [if_pos rfl, if_pos rfl]
      exact this
/-! ### The stack's way of it -/
structure G where
  a : Option S26
  b : Option S26
  deep : Nat
  n : Int
def itm : Option S26 → Option S26 → Option (List Int)
  | some a, some b => dif a b
  | _, _ => some []
def outp (way : List Int) (g : G) (p : List Int) : List Int := (if g.deep = 0 then [] else way.take (g.deep - 1) ++ [g.n]) ++ p
def FF (way : List Int) : List G → Option (List Int)
  | [] => none
  | g :: r => match itm g.a g.b with
    | some p => some (outp way g p)
    | none => FF way r
theorem FF_way {way way' : List Int} : ∀ (r : List G), (∀ g ∈ r, way'.take (g.deep - 1) = way.take (g.deep - 1)) → FF way' r = FF way r
  | [], _ => rfl
  | g :: r, h => by
    rw [FF, FF, FF_way r (fun g hg => h g (List.mem_cons_of_mem _ hg))]
    unfold outp
    rw [h g (List.mem_cons_self ..)]
/-- The kids of two nodes, from a place on, side by side. -/
def kidsG (l m : List S26) (d : Nat) (i : Nat) : Nat → List G
  | 0 => []
  | c + 1 => ⟨l[i]?, m[i]?, d + 1, (i : Int)⟩ :: kidsG l m d (i + 1) c
theorem FF_kids (l m : List S26) (d : Nat) (way : List Int) (hw : way.length = d) (r : List G) : ∀ c i, i + c = max l.length m.length → FF way (kidsG l m d i c ++ r) = match difK (l.drop i) (m.drop i) (i : Int) with
    | some p => some (way ++ p)
    | none => FF way r
  | 0, i, h => by
    rw [List.drop_eq_nil_of_le (by omega), List.drop_eq_nil_of_le (by omega), difK]
    rfl
  | c + 1, i, h => by
    have ho : ∀ (p : List Int) (x y : Option S26), outp way ⟨x, y, d + 1, (i : Int)⟩ p = way ++ ((i : Int) :: p) := by
      intro p x y
      subst hw
      unfold outp
      simp
    rw [kidsG, List.cons_append, FF]
    by_cases h1 : i < l.length
    · by_cases h2 : i < m.length
      · have e1 : l[i]? = some (rd_T26 l (i : Int)) := by unfold rd_T26; simp [List.getD, h1]
        have e2 : m[i]? = some (rd_T26 m (i : Int)) := by unfold rd_T26; simp [List.getD, h2]
        rw [rd26 l i h1, rd26 m i h2, difK]
        dsimp only
        rw [e1, e2, itm]
        cases e : dif (rd_T26 l (i : Int)) (rd_T26 m (i : Int)) with
        | some p => dsimp only; rw [ho]
        | none => dsimp only; rw [FF_kids l m d way hw r c (i + 1) (by omega)]; rfl
      · rw [rd26 l i h1, List.drop_eq_nil_of_le (show m.length ≤ i by omega), difK]
        dsimp only
        rw [show m[i]? = none from List.getElem?_eq_none (by omega)]
        cases l[i]? <;> (dsimp only [itm]; rw [ho])
    · rw [List.drop_eq_nil_of_le (show l.length ≤ i by omega), rd26 m i (by omega), difK]
      dsimp only
      rw [show l[i]? = none from List.getElem?_eq_none (by omega)]
      dsimp only [itm]
      rw [ho]
def Wo : Option S26 → Nat
  | some a => W a
  | none => 0
def TW : List G → Nat
  | [] => 0
  | g :: r => 1 + Wo g.a + Wo g.b + TW r
theorem TW_app : ∀ (l r : List G), TW (l ++ r) = TW l + TW r
  | [], r => by simp [TW]
  | g :: l, r => by rw [List.cons_append, TW, TW, TW_app l r]; omega
theorem TW_len : ∀ (l : List G), l.length ≤ TW l
  | [] => by simp
  | g :: l => by have := TW_len l; rw [TW, List.length_cons]; omega
theorem TW_kids (l m : List S26) (d : Nat) : ∀ c i, i + c = max l.length m.length → TW (kidsG l m d i c) ≤ WK (l.drop i) + WK (m.drop i)
  | 0, i, _ => by simp [kidsG, TW]
  | c + 1, i, h => by
    have := TW_kids l m d c (i + 1) (by omega)
    rw [kidsG, TW]
    dsimp only
    have h1 : Wo l[i]? + (if i < l.length then 1 else 0) + WK (l.drop (i + 1)) ≤ WK (l.drop i) := by
      by_cases hi : i < l.length
      · rw [if_pos hi, rd26 l i hi, WK, show l[i]? = some (rd_T26 l (i : Int)) from by unfold rd_T26; simp [List.getD, hi], Wo]; omega
      · rw [if_neg hi, show l[i]? = none from List.getElem?_eq_none (by omega), Wo, List.drop_eq_nil_of_le (by omega), WK]; omega
    have h2 : Wo m[i]? + (if i < m.length then 1 else 0) + WK (m.drop (i + 1)) ≤ WK (m.drop i) := by
      by_cases hi : i < m.length
      · rw [if_pos hi, rd26 m i hi, WK, show m[i]? = some (rd_T26 m (i : Int)) from by unfold rd_T26; simp [List.getD, hi], Wo]; omega
      · rw [if_neg hi, show m[i]? = none from List.getElem?_eq_none (by omega), Wo, List.drop_eq_nil_of_le (by omega), WK]; omega
    split at h1 <;> split at h2 <;> omega
/-- What a popped place makes of the way. -/
def way1 (way : List Int) (g : G) : List Int := if g.deep = 0 then way else way.take (g.deep - 1) ++ [g.n]
structure Good (way : List Int) (gs : List G) : Prop where
  le : ∀ g ∈ gs, g.deep ≤ way.length + 1
  top : ∀ g ∈ gs, g.deep = 0 → way = [] ∧ gs.length = 1
  sort : gs.Pairwise (fun g h => h.deep ≤ g.deep)
theorem way1_len {way : List Int} {g : G} {r : List G} (h : Good way (g :: r)) : (way1 way g).length = g.deep := by
  have h1 := h.le g (List.mem_cons_self ..)
  unfold way1
  split
  · rename_i e
    rw [(h.top g (List.mem_cons_self ..) e).1, e]
    rfl
  · rw [List.length_append, List.length_take, List.length_singleton]
    omega
theorem way1_take {way : List Int} {g : G} {r : List G} (h : Good way (g :: r)) (x : G) (hx : x ∈ r) : (way1 way g).take (x.deep - 1) = way.take (x.deep - 1) := by
  have h1 := h.le g (List.mem_cons_self ..)
  have h2 := (List.pairwise_cons.1 h.sort).1 x hx
  unfold way1
  split
  · rfl
  · rw [List.take_append_of_le_length (by rw [List.length_take]; omega), List.take_take, Nat.min_eq_left (by omega)]
theorem outp_way1 {way : List Int} {g : G} {r : List G} (h : Good way (g :: r)) (p : List Int) : outp way g p = way1 way g ++ p := by
  unfold outp way1
  split
  · rename_i e
    rw [(h.top g (List.mem_cons_self ..) e).1]
  · rfl
theorem FF_step {way : List Int} {g : G} {r : List G} (h : Good way (g :: r)) {a b : S26} (ha : g.a = some a) (hb : g.b = some b) (hl : labL a b = true) :
    FF way (g :: r) = FF (way1 way g) (kidsG a.f5 b.f5 g.deep 0 (max a.f5.length b.f5.length) ++ r) := by
  rw [FF_kids _ _ _ _ (way1_len h) r _ 0 (by omega), FF, ha, hb, itm, dif_eq, if_pos hl, FF_way r (way1_take h), List.drop_zero, List.drop_zero]
  cases e : difK a.f5 b.f5 ((0 : Nat) : Int) with
  | none => rfl
  | some p =>
    dsimp only
    rw [outp_way1 h]
theorem FF_stop {way : List Int} {g : G} {r : List G} (h : Good way (g :: r)) (hs : itm g.a g.b = some []) : FF way (g :: r) = some (way1 way g) := by
  rw [FF, hs]
  dsimp only
  rw [outp_way1 h, List.append_nil]
theorem itm_lab {a b : S26} (h : labL a b = false) : itm (some a) (some b) = some [] := by
  rw [itm, dif_eq, h]
  rfl
theorem kidsG_deep (l m : List S26) (d : Nat) : ∀ c i, ∀ g ∈ kidsG l m d i c, g.deep = d + 1
  | 0, _, g, h => by simp [kidsG] at h
  | c + 1, i, g, h => by
    rw [kidsG] at h
    rcases List.mem_cons.1 h with h | h
    · rw [h]
    · exact kidsG_deep l m d c (i + 1) g h
theorem kidsG_sort (l m : List S26) (d : Nat) : ∀ c i, (kidsG l m d i c).Pairwise (fun g h => h.deep ≤ g.deep)
  | 0, _ => by rw [kidsG]; exact List.Pairwise.nil
  | c + 1, i => by
    rw [kidsG]
    refine List.pairwise_cons.2 ⟨fun g hg => ?_, kidsG_sort l m d c (i + 1)⟩
    rw [kidsG_deep l m d c (i + 1) g hg]
    exact Nat.le_refl _
theorem Good_step {way : List Int} {g : G} {r : List G} (h : Good way (g :: r)) (l m : List S26) (c i : Nat) : Good (way1 way g) (kidsG l m g.deep i c ++ r) := by
  have hlen := way1_len h
  have hs := List.pairwise_cons.1 h.sort
  refine ⟨fun x hx => ?_, fun x hx h0 => ?_, List.pairwise_append.2 ⟨kidsG_sort .., hs.2, fun x hx y hy => ?_⟩⟩
  · rw [hlen]
    rcases List.mem_append.1 hx with hx | hx
    · rw [kidsG_deep _ _ _ _ _ x hx]; omega
    · have := hs.1 x hx; omega
  · rcases List.mem_append.1 hx with hx | hx
    · rw [kidsG_deep _ _ _ _ _ x hx] at h0; omega
    · have hw := (h.top x (List.mem_cons_of_mem _ hx) h0).2
      have := List.length_pos_of_mem hx
      rw [List.length_cons] at hw
      omega
  · rw [kidsG_deep _ _ _ _ _ x hx]
    have := hs.1 y hy
    omega
end Go.Proofs.YteglfgmgpbablaaDoor.Cmp
