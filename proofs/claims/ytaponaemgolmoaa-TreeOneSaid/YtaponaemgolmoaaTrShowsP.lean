/- Plain laws: as many lines as nodes below the top one, if no text has a line's end; the same trees are one tree. -/
import Derived.Test.YtaponaemgolmoaaTrCalls
namespace Go.Proofs.Ytaponaemgolmoaa.Tr
open Go.RowKit Go.Proofs.Ytaponaemgolmoaa.PTreeTells Go.Proofs.YtaponaemgolmoaaW.PrintWords Go.Proofs.YtaponaemgolmoaaW.PrintLast
set_option linter.unusedVariables false
set_option linter.unusedSimpArgs false
/-- Line's ends. -/
def nl : List UInt8 → Nat
  | [] => 0
  | b :: l => (if b = 10 then 1 else 0) + nl l
theorem nl_app : ∀ l m : List UInt8, nl (l ++ m) = nl l + nl m
  | [], m => by rw [nl]; simp
  | b :: l, m => by rw [List.cons_append, nl, nl, nl_app l m]; omega
theorem nl_take (l : List UInt8) (q : Nat) (h : q < l.length) : nl (l.take (q + 1)) = nl (l.take q) + (if l[q] = 10 then 1 else 0) := by
  rw [List.take_succ_eq_append_getElem h, nl_app, nl, nl]
  omega
theorem nl_len : ∀ l : List UInt8, nl l ≤ l.length
  | [] => Nat.le_refl _
  | b :: l => by rw [nl, List.length_cons]; have := nl_len l; split <;> omega
theorem nl_zero : ∀ l : List UInt8, nl l = 0 → ∀ b ∈ l, b ≠ 10
  | [], _, b, hb => by cases hb
  | c :: l, h, b, hb => by
    rw [nl] at h
    rcases List.mem_cons.1 hb with rfl | hb
    · intro e
      rw [if_pos e] at h
      omega
    · exact nl_zero l (by omega) b hb
theorem nl_none : ∀ l : List UInt8, (∀ b ∈ l, b ≠ 10) → nl l = 0
  | [], _ => rfl
  | c :: l, h => by rw [nl, if_neg (h c List.mem_cons_self), nl_none l (fun b hb => h b (List.mem_cons_of_mem _ hb))]
/-- A node without a line's end. -/
def NlF (x : S26) : Prop := x.f3 = [] ∧ nl (bts x.f2) = 0 ∧ nl (bts x.f4) = 0
theorem nl_line (x : S26) (h : NlF x) : nl (lineL x) = 0 := by
  obtain ⟨h3, h2, h4⟩ := h
  unfold lineL elemH
  split
  · simp only [nl_app, h2]; rfl
  · split
    · rw [h3]
      split <;> (simp only [nl_app, h2]; rfl)
    · split
      · simp only [nl_app, h4]; rfl
      · split
        · simp only [nl_app, h4]; rfl
        · split <;> rfl
mutual
theorem nl_show : ∀ (t : S26) (i : List UInt8), AllNK NlF t.f5 → nl i = 0 → nl (showR t i) = cntK t.f5
  | ⟨a, b, c, d, e, k⟩, i, h, hi => by rw [showR]; exact nl_showK k i h hi
theorem nl_showK : ∀ (l : List S26) (i : List UInt8), AllNK NlF l → nl i = 0 → nl (showRK l i) = cntK l
  | [], i, _, _ => by rw [showRK, cntK]; rfl
  | x :: l, i, h, hi => by
    rw [AllNK] at h
    have hx := h.1
    rw [AllN_eq] at hx
    have h1 := nl_show x (i ++ [32, 32]) hx.2 (by rw [nl_app, hi]; rfl)
    have h2 := nl_showK l i h.2 hi
    have h3 := nl_line (bare x) hx.1
    rw [← lineL_bare] at h3
    rw [showRK, cntK, cntT_eq]
    simp only [nl_app, hi, h1, h2, h3]
    show 0 + (0 + (1 + cntK x.f5)) + cntK l = _
    omega
end
/-- A told node without a line's end. -/
def NlS (x : S30) : Prop := nl (bts x.f3) = 0 ∧ nl (bts x.f4) = 0
theorem head_nl (s : ByteArray) (h : nl (bts s) = 0) : nl (bts (headL s)) = 0 :=
  nl_none _ (fun b hb => nl_zero _ h b ((head_some s).2.2 b hb))
theorem node_nl (x : S30) (h : NlS x) : AllN NlF (nodeL true x) := by
  have h3 := head_nl x.f3 h.1
  have h4 := head_nl x.f4 h.2
  unfold nodeL
  rw [if_pos rfl]
  rcases (made_some x).2 with e | ⟨_, e⟩ | e | ⟨ns, _, e⟩
  · rw [e, AllN]
    exact ⟨⟨rfl, rfl, h4⟩, by rw [AllNK]; trivial⟩
  · rw [e, AllN]
    exact ⟨⟨rfl, rfl, h4⟩, by rw [AllNK]; trivial⟩
  · rw [e, AllN, AllNK, AllNK, AllN, AllNK]
    exact ⟨⟨rfl, rfl, rfl⟩, ⟨⟨rfl, rfl, rfl⟩, trivial⟩, trivial⟩
  · rw [e, AllN]
    refine ⟨⟨rfl, ?_, rfl⟩, by rw [AllNK]; trivial⟩
    show nl (bts ((⟨#[120]⟩ : ByteArray) ++ headL x.f3)) = 0
    rw [bts_app, nl_app, h3]
    rfl
theorem grow_nl (l : List S30) : ∀ n, n ≤ l.length → (∀ i, i < n → NlS (rd_T30 l (i : Int))) → AllN NlF (growN true l n).1
  | 0, _, _ => by
    show AllN NlF doc
    unfold doc
    rw [AllN, AllNK]
    exact ⟨⟨rfl, rfl, rfl⟩, trivial⟩
  | n + 1, h, hs => by
    rw [growN_succ true l n (by omega)]
    have G := growN_grown true l n (by omega)
    exact under_AllN _ _ (node_nl _ (hs n (by omega))) _ _ (valid_take _ _ _ G.valid) (grow_nl l n (by omega) (fun i hi => hs i (by omega)))
theorem grow_lines (l : List S30) (n : Nat) (h : n ≤ l.length) (h2 : n ≤ 30) (h3 : ¬ (n < l.length ∧ n < 30)) (hs : ∀ i, i < n → NlS (rd_T30 l (i : Int))) : nl (showR (growL true l) []) + 1 = cntT (growL true l) := by
  rw [growL_N true l n h h2 h3]
  have hg := grow_nl l n h hs
  rw [AllN_eq] at hg
  rw [nl_show _ [] hg.2 rfl, cntT_eq]
  omega
theorem sameA_eq : ∀ l m : List S33, sameA l m = true → l = m
  | [], [], _ => rfl
  | [], _ :: _, h => by simp [sameA] at h
  | _ :: _, [], h => by simp [sameA] at h
  | ⟨a, b⟩ :: l, ⟨c, d⟩ :: m, h => by
    simp only [sameA, Bool.and_eq_true, beq_iff_eq, ByteArray.toList_eq] at h
    obtain ⟨⟨h1, h2⟩, h3⟩ := h
    rw [sameA_eq l m h3, WideShapes.bytes_inj h1, WideShapes.bytes_inj h2]
mutual
theorem eqT_id : ∀ a b : S26, eqT a b = true → a = b
  | ⟨a0, a1, a2, a3, a4, a5⟩, ⟨b0, b1, b2, b3, b4, b5⟩, h => by
    rw [eqT_eq, Bool.and_eq_true] at h
    obtain ⟨h1, h2⟩ := h
    unfold labL at h1
    simp only [Bool.and_eq_true, beq_iff_eq, ByteArray.toList_eq] at h1
    obtain ⟨e0, e1, e2, e3, e4⟩ := h1
    rw [e0, e1, WideShapes.bytes_inj e2, sameA_eq _ _ e3, WideShapes.bytes_inj e4, eqK_id a5 b5 0 h2]
theorem eqK_id : ∀ (l m : List S26) (i : Int), eqK l m i = true → l = m
  | [], [], _, _ => rfl
  | [], y :: m, i, h => by rw [eqK_len [] (y :: m) i (by simp)] at h; cases h
  | x :: l, [], i, h => by rw [eqK_len (x :: l) [] i (by simp)] at h; cases h
  | x :: l, y :: m, i, h => by
    rw [eqK_cons, Bool.and_eq_true] at h
    rw [eqT_id x y h.1, eqK_id l m (i + 1) h.2]
end
theorem eqT_symm (a b : S26) : eqT a b = eqT b a := by
  cases h : eqT a b with
  | true =>
    have := eqT_id a b h
    subst this
    exact h.symm
  | false =>
    cases h2 : eqT b a with
    | true =>
      have := eqT_id b a h2
      subst this
      rw [h] at h2
      cases h2
    | false => rfl
/-- What a told node has of line's ends, and of attributes' letters. -/
def attC (l : List S33) : Nat := (l.map fun a => a.f0.size + a.f1.size).sum
def endC (x : S30) : Nat := nl (bts x.f3) + nl (bts x.f4) + attC x.f5
def endN (l : List S30) (n : Nat) : Nat := ((l.take n).map endC).sum
theorem endN_succ (l : List S30) (n : Nat) (h : n < l.length) : endN l (n + 1) = endN l n + endC (rd_T30 l (n : Int)) := by
  have e : rd_T30 l (n : Int) = l[n] := by
    unfold rd_T30
    rw [Int.toNat_natCast, List.getD_eq_getElem?_getD, List.getElem?_eq_getElem h]
    rfl
  unfold endN
  rw [List.take_succ_eq_append_getElem h, e, List.map_append, List.sum_append]
  simp only [List.map_cons, List.map_nil, List.sum_cons, List.sum_nil, Nat.add_zero]
theorem endN_zero (l : List S30) : ∀ n, n ≤ l.length → endN l n = 0 → ∀ i, i < n → NlS (rd_T30 l (i : Int))
  | 0, _, _, i, hi => by omega
  | n + 1, h, hz, i, hi => by
    rw [endN_succ l n (by omega)] at hz
    by_cases e : i = n
    · subst e
      unfold endC at hz
      exact ⟨by omega, by omega⟩
    · exact endN_zero l n (by omega) (by omega) i (by omega)
theorem attC_take (l : List S33) (k : Nat) (h : k < l.length) : attC (l.take (k + 1)) = attC (l.take k) + ((rd_T33 l (k : Int)).f0.size + (rd_T33 l (k : Int)).f1.size) := by
  have e : rd_T33 l (k : Int) = l[k] := by
    unfold rd_T33
    rw [Int.toNat_natCast, List.getD_eq_getElem?_getD, List.getElem?_eq_getElem h]
    rfl
  unfold attC
  rw [List.take_succ_eq_append_getElem h, e, List.map_append, List.sum_append]
  simp only [List.map_cons, List.map_nil, List.sum_cons, List.sum_nil, Nat.add_zero]
theorem attC_bound (B : Nat) : ∀ l : List S33, (∀ a ∈ l, a.f0.size ≤ B ∧ a.f1.size ≤ B) → attC l ≤ l.length * (2 * B)
  | [], _ => by simp [attC]
  | x :: l, h => by
    have h1 := h x List.mem_cons_self
    have h2 := attC_bound B l (fun a ha => h a (List.mem_cons_of_mem _ ha))
    unfold attC at h2 ⊢
    rw [List.map_cons, List.sum_cons, List.length_cons, Nat.succ_mul]
    omega
/-- A told node of bounded size. -/
def NodeB (x : S30) : Prop := x.f3.size ≤ 1048576 ∧ x.f4.size ≤ 1048576 ∧ x.f5.length ≤ 1048576 ∧ ∀ a ∈ x.f5, a.f0.size ≤ 1048576 ∧ a.f1.size ≤ 1048576
theorem endC_bound (x : S30) (h : NodeB x) : endC x ≤ 4398046511104 := by
  obtain ⟨h3, h4, h5, ha⟩ := h
  have h6 := attC_bound 1048576 x.f5 ha
  have h7 : x.f5.length * (2 * 1048576) ≤ 1048576 * (2 * 1048576) := Nat.mul_le_mul h5 (Nat.le_refl _)
  have h8 := nl_len (bts x.f3)
  have h9 := nl_len (bts x.f4)
  rw [bts_size] at h8 h9
  unfold endC
  omega
theorem endN_bound (l : List S30) (hb : ∀ x ∈ l, NodeB x) : ∀ n, n ≤ l.length → endN l n ≤ n * 4398046511104
  | 0, _ => by simp [endN]
  | n + 1, h => by
    have h1 := endN_bound l hb n (by omega)
    have e : rd_T30 l (n : Int) = l[n] := by
      unfold rd_T30
      rw [Int.toNat_natCast, List.getD_eq_getElem?_getD, List.getElem?_eq_getElem (by omega)]
      rfl
    have h2 := endC_bound (rd_T30 l (n : Int)) (by rw [e]; exact hb _ (List.getElem_mem _))
    rw [endN_succ l n (by omega), Nat.succ_mul]
    omega
end Go.Proofs.Ytaponaemgolmoaa.Tr
