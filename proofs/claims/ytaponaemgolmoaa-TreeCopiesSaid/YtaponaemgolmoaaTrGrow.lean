/- Plain laws on what 'under', 'made' and 'grow' make: ways stay ways, weights grow by little, each node has what was laid. The walk of arbourlaw14.grow. -/
import Derived.Test.YtaponaemgolmoaaTrUnderT
import Derived.Test.YtaponaemgolmoaaPTreeTellsx2
namespace Go.Proofs.Ytaponaemgolmoaa.Tr
open Go.RowKit Go.Proofs.Ytaponaemgolmoaa.PTreeTells Go.Proofs.YtaponaemgolmoaaW.PrintWords Go.Proofs.YtaponaemgolmoaaW.PrintLast
theorem valid_take : ∀ (way : List Nat) (t : S26) (k : Nat), ValidW way t → ValidW (way.take k) t
  | [], t, k, _ => by rw [List.take_nil]; trivial
  | a :: r, t, 0, _ => trivial
  | a :: r, t, k + 1, h => ⟨h.1, valid_take r _ k h.2⟩
theorem under_valid (x : S26) : ∀ (way : List Nat) (t : S26), ValidW way t → ValidW (underL x way t).2 (underL x way t).1
  | [], t, _ => by
    rw [underL]
    dsimp only
    split
    · trivial
    · exact ⟨by show t.f5.length < (t.f5 ++ [x]).length; simp, trivial⟩
  | k :: r, t, h => by
    rw [underL]
    refine ⟨by show k < (t.f5.set k _).length; rw [List.length_set]; exact h.1, ?_⟩
    have e : (t.f5.set k (underL x r (t.f5.getD k z26)).1).getD k z26 = (underL x r (t.f5.getD k z26)).1 := by
      simp [List.getD, h.1]
    show ValidW _ ((t.f5.set k (underL x r (t.f5.getD k z26)).1).getD k z26)
    rw [e]
    exact under_valid x r _ h.2
theorem WK_app : ∀ (l m : List S26), WK (l ++ m) = WK l + WK m
  | [], m => by simp [WK]
  | x :: l, m => by rw [List.cons_append, WK, WK, WK_app l m]; omega
theorem WK_set : ∀ (l : List S26) (k : Nat) (u : S26), k < l.length → WK (l.set k u) + W (l.getD k z26) = WK l + W u
  | [], k, u, h => by simp at h
  | x :: l, 0, u, _ => by rw [List.set_cons_zero, WK, WK]; simp [List.getD]; omega
  | x :: l, k + 1, u, h => by
    have := WK_set l k u (by simpa using h)
    rw [List.set_cons_succ, WK, WK]
    simp only [List.getD_cons_succ]
    omega
theorem under_W (x : S26) : ∀ (way : List Nat) (t : S26), ValidW way t → W (underL x way t).1 ≤ W t + W x + 1
  | [], t, _ => by
    rw [underL]
    dsimp only
    rw [W_eq (addK t x), W_eq t]
    unfold addK
    dsimp only
    rw [WK_app, WK, WK]
    omega
  | k :: r, t, h => by
    rw [underL]
    have h1 := under_W x r (t.f5.getD k z26) h.2
    have h2 := WK_set t.f5 k (underL x r (t.f5.getD k z26)).1 h.1
    dsimp only
    rw [W_eq t]
    rw [W]
    omega
mutual
/-- Each node has it (kids aside). -/
def AllN (P : S26 → Prop) : S26 → Prop
  | ⟨a, b, c, d, e, k⟩ => P ⟨a, b, c, d, e, []⟩ ∧ AllNK P k
def AllNK (P : S26 → Prop) : List S26 → Prop
  | [] => True
  | x :: l => AllN P x ∧ AllNK P l
end
def bare (x : S26) : S26 := ⟨x.f0, x.f1, x.f2, x.f3, x.f4, []⟩
theorem AllN_eq (P : S26 → Prop) (x : S26) : AllN P x = (P (bare x) ∧ AllNK P x.f5) := by
  obtain ⟨a, b, c, d, e, k⟩ := x
  rw [AllN]
  rfl
theorem AllNK_app (P : S26 → Prop) : ∀ (l m : List S26), AllNK P l → AllNK P m → AllNK P (l ++ m)
  | [], m, _, h => h
  | x :: l, m, h, h2 => by
    rw [AllNK] at h
    rw [List.cons_append, AllNK]
    exact ⟨h.1, AllNK_app P l m h.2 h2⟩
theorem AllNK_set (P : S26 → Prop) : ∀ (l : List S26) (k : Nat) (u : S26), AllNK P l → AllN P u → AllNK P (l.set k u)
  | [], k, u, h, _ => h
  | x :: l, 0, u, h, hu => by
    rw [AllNK] at h
    rw [List.set_cons_zero, AllNK]
    exact ⟨hu, h.2⟩
  | x :: l, k + 1, u, h, hu => by
    rw [AllNK] at h
    rw [List.set_cons_succ, AllNK]
    exact ⟨h.1, AllNK_set P l k u h.2 hu⟩
theorem AllNK_getD (P : S26 → Prop) : ∀ (l : List S26) (k : Nat), k < l.length → AllNK P l → AllN P (l.getD k z26)
  | [], k, h, _ => by simp at h
  | x :: l, 0, _, h => by rw [AllNK] at h; exact h.1
  | x :: l, k + 1, h, ha => by
    rw [AllNK] at ha
    simp only [List.getD_cons_succ]
    exact AllNK_getD P l k (by simpa using h) ha.2
theorem under_AllN (P : S26 → Prop) (x : S26) (hx : AllN P x) : ∀ (way : List Nat) (t : S26), ValidW way t → AllN P t → AllN P (underL x way t).1
  | [], t, _, h => by
    rw [underL]
    dsimp only
    rw [AllN_eq] at h ⊢
    exact ⟨h.1, AllNK_app P _ _ h.2 (by rw [AllNK]; exact ⟨hx, by rw [AllNK]; trivial⟩)⟩
  | k :: r, t, hv, h => by
    rw [underL]
    rw [AllN_eq] at h ⊢
    exact ⟨h.1, AllNK_set P _ _ _ h.2 (under_AllN P x hx r _ hv.2 (AllNK_getD P _ k hv.1 h.2))⟩
mutual
theorem AllN_imp {P Q : S26 → Prop} (h : ∀ x, P x → Q x) : ∀ x, AllN P x → AllN Q x
  | ⟨a, b, c, d, e, k⟩, hx => by
    rw [AllN] at hx ⊢
    exact ⟨h _ hx.1, AllNK_imp h k hx.2⟩
theorem AllNK_imp {P Q : S26 → Prop} (h : ∀ x, P x → Q x) : ∀ l, AllNK P l → AllNK Q l
  | [], _ => by rw [AllNK]; trivial
  | x :: l, hx => by
    rw [AllNK] at hx ⊢
    exact ⟨AllN_imp h x hx.1, AllNK_imp h l hx.2⟩
end
mutual
theorem AllN_AL (n : Nat) : ∀ x, AllN (fun x => x.f3.length ≤ n) x → AL n x
  | ⟨a, b, c, d, e, k⟩, hx => by
    rw [AllN] at hx
    rw [AL]
    exact ⟨hx.1, AllNK_ALK n k hx.2⟩
theorem AllNK_ALK (n : Nat) : ∀ l, AllNK (fun x => x.f3.length ≤ n) l → ALK n l
  | [], _ => by rw [ALK]; trivial
  | x :: l, hx => by
    rw [AllNK] at hx
    rw [ALK]
    exact ⟨AllN_AL n x hx.1, AllNK_ALK n l hx.2⟩
end
theorem within0 (a : Int) (m : Nat) (h2 : m ≤ 2000000) : ∃ t : Int, 0 ≤ t ∧ t ≤ m ∧ arbourbook_Within.f a 0 m = some t := by
  have e1 : wrap64 (wrap64 ((m : Int) - 0) + 1) = m + 1 := by rw [IntWalk.wrap64_in _ (by rw [IntWalk.wrap64_in _ (by omega)]; omega), IntWalk.wrap64_in _ (by omega)]; omega
  have t1 := Int.tmod_lt_of_pos a (show (0 : Int) < (m : Int) + 1 by omega)
  have t2 := Int.lt_tmod_of_pos a (show (0 : Int) < (m : Int) + 1 by omega)
  unfold arbourbook_Within.f
  rw [e1, if_neg (by omega)]
  by_cases h : Int.tmod a ((m : Int) + 1) < 0
  · rw [if_pos h]
    refine ⟨_, ?_, ?_, rfl⟩ <;> (rw [IntWalk.wrap64_in (Int.tmod a ((m : Int) + 1) + m) (by omega), IntWalk.wrap64_in (Int.tmod a ((m : Int) + 1) + m - 0) (by omega), IntWalk.wrap64_in (Int.tmod a ((m : Int) + 1) + m - 0 + 1) (by omega), IntWalk.wrap64_in _ (by omega)]; omega)
  · rw [if_neg h]
    refine ⟨_, ?_, ?_, rfl⟩ <;> (rw [IntWalk.wrap64_in _ (by omega)]; omega)
theorem head_any (s : ByteArray) (n : Nat) : ∃ r, arbourkeep_Head.f s n = some r ∧ r.size ≤ n ∧ ∀ b ∈ r.data.toList, b ∈ s.data.toList := by
  unfold arbourkeep_Head.f
  by_cases h1 : (n : Int) < (s.size : Int)
  · rw [if_pos h1, if_pos (by omega), if_pos (by omega)]
    refine ⟨_, rfl, by simp [ByteArray.size_extract]; omega, fun b hb => ?_⟩
    rw [ByteArray.data_extract] at hb
    rw [Array.toList_extract] at hb
    exact List.mem_of_mem_drop (List.mem_of_mem_take hb)
  · rw [if_neg h1]; exact ⟨_, rfl, by omega, fun b hb => hb⟩
def headL (a : ByteArray) : ByteArray := (arbourkeep_Head.f a 9).getD ByteArray.empty
theorem head_some (s : ByteArray) : arbourkeep_Head.f s 9 = some (headL s) ∧ (headL s).size ≤ 9 ∧ ∀ b ∈ (headL s).data.toList, b ∈ s.data.toList := by
  obtain ⟨r, h, h2, h3⟩ := head_any s 9
  have e : headL s = r := by unfold headL; rw [show (9 : Int) = ((9 : Nat) : Int) from rfl, h]; rfl
  rw [e]
  exact ⟨h, h2, h3⟩
def AttrOk (x : S33) : Prop := x.f0.size ≤ 20 ∧ x.f1.size ≤ 30
theorem short_loop (ys : List S33) : ∀ (d k i : Nat) (acc : List S33), 6 - i = d → i ≤ 6 → acc.length = i → (∀ x ∈ acc, AttrOk x) → 2 * d + 3 < k → ∃ r, arbourkeep_Short.l0 k ys acc (i : Int) = some r ∧ r.length ≤ 6 ∧ ∀ x ∈ r, AttrOk x := by
  intro d
  induction d with
  | zero =>
    intro k i acc hd hi ha hok hk
    obtain ⟨m, rfl⟩ : ∃ m, k = m + 1 + 1 := ⟨k - 2, by omega⟩
    unfold arbourkeep_Short.l0
    refine ⟨acc, ?_, by omega, hok⟩
    have e6 : decide ((i : Int) < 6) = false := decide_eq_false (by omega)
    rw [e6]
    split <;> (unfold arbourkeep_Short.j1; rw [if_neg (by decide)])
  | succ d ih =>
    intro k i acc hd hi ha hok hk
    obtain ⟨m, rfl⟩ : ∃ m, k = m + 1 + 1 := ⟨k - 2, by omega⟩
    unfold arbourkeep_Short.l0
    have e6 : decide ((i : Int) < 6) = true := decide_eq_true (by omega)
    rw [e6]
    by_cases hl : (i : Int) < (ys.length : Int)
    · rw [if_pos hl]
      unfold arbourkeep_Short.j1
      rw [if_pos rfl, if_pos (by omega), if_pos hl]
      obtain ⟨r0, h0, s0, -⟩ := head_any (rd_T33 ys i).f0 20
      obtain ⟨r1, h1, s1, -⟩ := head_any (rd_T33 ys i).f1 30
      rw [show ((20 : Nat) : Int) = 20 from rfl] at h0
      rw [show ((30 : Nat) : Int) = 30 from rfl] at h1
      have ew : wrap64 ((i : Int) + 1) = ((i + 1 : Nat) : Int) := by unfold wrap64; omega
      rw [h0, Option.bind_some, h1, Option.bind_some, if_pos (by omega), ew]
      refine ih m (i + 1) _ (by omega) (by omega) (by simp; omega) (fun x hx => ?_) (by omega)
      rcases List.mem_append.1 hx with hx | hx
      · exact hok x hx
      · rw [List.mem_singleton.1 hx]; exact ⟨s0, s1⟩
    · rw [if_neg hl]
      unfold arbourkeep_Short.j1
      rw [if_neg (by decide)]
      exact ⟨acc, rfl, by omega, hok⟩
def shortL (l : List S33) : List S33 := (arbourkeep_Short.f 40 l).getD []
theorem short_some (l : List S33) : arbourkeep_Short.f 40 l = some (shortL l) ∧ (shortL l).length ≤ 6 ∧ ∀ x ∈ shortL l, AttrOk x := by
  obtain ⟨r, hr, hl, ho⟩ := short_loop l 6 40 0 [] rfl (by omega) rfl (by simp) (by omega)
  have h : arbourkeep_Short.f 40 l = some r := hr
  unfold shortL
  rw [h]
  exact ⟨rfl, hl, ho⟩
/-- A node as it is told. -/
def rawN (x : S30) : S26 := ⟨x.f0, x.f1, headL x.f3, shortL x.f5, headL x.f4, []⟩
/-- What 'made' makes. -/
def madeL (x : S30) (y : S26) : S26 :=
  match arbourlaw14_made.f x.f0 x.f1 x.f2 x.f3 x.f4 x.f5 y.f0 y.f1 y.f2 y.f3 y.f4 y.f5 with
  | some (r1, r2, r3, r4, r5, r6) => ⟨r1, r2, r3, r4, r5, r6⟩
  | none => z26
/-- What is made has no attributes, and no more text than was told. -/
def MadeOk (x : S30) (z : S26) : Prop := (z = ⟨5, 0, ⟨#[]⟩, [], headL x.f4, []⟩) ∨ ((headL x.f4).toList ≠ [] ∧ z = ⟨4, 0, ⟨#[]⟩, [], headL x.f4, []⟩) ∨ (z = ⟨3, 1, ⟨#[116, 101, 109, 112, 108, 97, 116, 101]⟩, [], ⟨#[]⟩, [⟨6, 0, ⟨#[]⟩, [], ⟨#[]⟩, []⟩]⟩) ∨ (∃ ns : Int, (ns = 1 ∨ ns = 2) ∧ z = ⟨3, ns, (⟨#[120]⟩ : ByteArray) ++ headL x.f3, [], ⟨#[]⟩, []⟩)
theorem made_some (x : S30) : arbourlaw14_made.f x.f0 x.f1 x.f2 x.f3 x.f4 x.f5 (rawN x).f0 (rawN x).f1 (rawN x).f2 (rawN x).f3 (rawN x).f4 (rawN x).f5 = some ((madeL x (rawN x)).f0, (madeL x (rawN x)).f1, (madeL x (rawN x)).f2, (madeL x (rawN x)).f3, (madeL x (rawN x)).f4, (madeL x (rawN x)).f5) ∧ MadeOk x (madeL x (rawN x)) := by
  obtain ⟨t, h0, h1, ht⟩ := within0 x.f0 1000 (by omega)
  obtain ⟨u, g0, g1, hu⟩ := within0 x.f1 1 (by omega)
  rw [show ((1000 : Nat) : Int) = 1000 from rfl] at ht
  rw [show ((1 : Nat) : Int) = 1 from rfl] at hu
  have hs := (head_some x.f3).2.1
  have hw : wrap64 (1 + u) = 1 + u := IntWalk.wrap64_in _ (by omega)
  have hz : 1 + (rawN x).f2.size ≤ 9223372036854775807 := by show 1 + (headL x.f3).size ≤ _; omega
  have key : ∃ z : S26, arbourlaw14_made.f x.f0 x.f1 x.f2 x.f3 x.f4 x.f5 (rawN x).f0 (rawN x).f1 (rawN x).f2 (rawN x).f3 (rawN x).f4 (rawN x).f5 = some (z.f0, z.f1, z.f2, z.f3, z.f4, z.f5) ∧ MadeOk x z := by
    unfold arbourlaw14_made.f
    rw [ht, Option.bind_some, hu, Option.bind_some, if_pos hz, hw]
    split
    · exact ⟨_, rfl, .inl rfl⟩
    · split
      · split
        · exact ⟨⟨3, 1 + u, (⟨#[120]⟩ : ByteArray) ++ headL x.f3, [], ⟨#[]⟩, []⟩, rfl, .inr (.inr (.inr ⟨1 + u, by omega, rfl⟩))⟩
        · exact ⟨⟨4, 0, ⟨#[]⟩, [], headL x.f4, []⟩, rfl, .inr (.inl ⟨by assumption, rfl⟩)⟩
      · split
        · exact ⟨⟨3, 1, ⟨#[116, 101, 109, 112, 108, 97, 116, 101]⟩, [], ⟨#[]⟩, [⟨6, 0, ⟨#[]⟩, [], ⟨#[]⟩, []⟩]⟩, rfl, .inr (.inr (.inl rfl))⟩
        · exact ⟨⟨3, 1 + u, (⟨#[120]⟩ : ByteArray) ++ headL x.f3, [], ⟨#[]⟩, []⟩, rfl, .inr (.inr (.inr ⟨1 + u, by omega, rfl⟩))⟩
  obtain ⟨z, hz1, hz2⟩ := key
  have e : madeL x (rawN x) = z := by
    unfold madeL
    rw [hz1]
    cases z
    rfl
  rw [e]
  exact ⟨hz1, hz2⟩
/-- The node that is laid. -/
def nodeL (right : Bool) (x : S30) : S26 := if right then madeL x (rawN x) else rawN x
/-- A node of few bytes. -/
def NdOk (x : S26) : Prop := x.f2.size ≤ 10 ∧ x.f4.size ≤ 9 ∧ x.f3.length ≤ 6 ∧ ∀ a ∈ x.f3, AttrOk a
theorem node_W (right : Bool) (x : S30) : W (nodeL right x) ≤ 3 := by
  unfold nodeL
  split
  · rcases (made_some x).2 with h | ⟨_, h⟩ | h | ⟨ns, _, h⟩ <;> (rw [h]; simp [W, WK])
  · unfold rawN; simp [W, WK]
theorem node_ok (right : Bool) (x : S30) : AllN NdOk (nodeL right x) := by
  have h3 := (head_some x.f3).2.1
  have h4 := (head_some x.f4).2.1
  have hz : NdOk ⟨6, 0, ⟨#[]⟩, [], ⟨#[]⟩, []⟩ := ⟨Nat.zero_le _, Nat.zero_le _, Nat.zero_le _, by simp⟩
  unfold nodeL
  split
  · rcases (made_some x).2 with h | ⟨_, h⟩ | h | ⟨ns, _, h⟩
    · rw [h, AllN]
      exact ⟨⟨Nat.zero_le _, h4, Nat.zero_le _, by simp⟩, by rw [AllNK]; trivial⟩
    · rw [h, AllN]
      exact ⟨⟨Nat.zero_le _, h4, Nat.zero_le _, by simp⟩, by rw [AllNK]; trivial⟩
    · rw [h, AllN]
      exact ⟨⟨by decide, Nat.zero_le _, Nat.zero_le _, by simp⟩, by rw [AllNK]; exact ⟨by rw [AllN]; exact ⟨hz, by rw [AllNK]; trivial⟩, by rw [AllNK]; trivial⟩⟩
    · rw [h, AllN]
      refine ⟨⟨?_, Nat.zero_le _, Nat.zero_le _, by simp⟩, by rw [AllNK]; trivial⟩
      show ((⟨#[120]⟩ : ByteArray) ++ headL x.f3).size ≤ 10
      rw [ByteArray.size_append]
      show 1 + _ ≤ 10
      omega
  · have hs := short_some x.f5
    unfold rawN
    rw [AllN]
    exact ⟨⟨by show (headL x.f3).size ≤ 10; omega, h4, hs.2.1, hs.2.2⟩, by rw [AllNK]; trivial⟩
def withinL (a : Int) (n : Nat) : Nat := ((arbourbook_Within.f a 0 (n : Int)).getD 0).toNat
/-- One node more. -/
def stepL (right : Bool) (x : S30) (s : S26 × List Nat) : S26 × List Nat :=
  underL (nodeL right x) (s.2.take (s.2.length - withinL x.f2 s.2.length)) s.1
def doc : S26 := ⟨1, 0, ⟨#[]⟩, [], ⟨#[]⟩, []⟩
def growS (right : Bool) (l : List S30) : S26 × List Nat := (l.take 30).foldl (fun s x => stepL right x s) (doc, [])
/-- What 'grow' makes. -/
def growL (right : Bool) (l : List S30) : S26 := (growS right l).1
/-- What holds of a tree that grows, and of the way to its last node that may hold others. -/
structure Grown (k : Nat) (s : S26 × List Nat) : Prop where
  valid : ValidW s.2 s.1
  weight : W s.1 ≤ 1 + 4 * k
  nodes : AllN NdOk s.1
theorem grown_doc : Grown 0 (doc, []) := ⟨trivial, by simp [doc, W, WK], by unfold doc; rw [AllN]; exact ⟨⟨Nat.zero_le _, Nat.zero_le _, Nat.zero_le _, by simp⟩, by rw [AllNK]; trivial⟩⟩
theorem grown_step (right : Bool) (k : Nat) (x : S30) (s : S26 × List Nat) (h : Grown k s) : Grown (k + 1) (stepL right x s) := by
  have hv := valid_take s.2 s.1 (s.2.length - withinL x.f2 s.2.length) h.valid
  refine ⟨under_valid _ _ _ hv, ?_, under_AllN _ _ (node_ok _ _) _ _ hv h.nodes⟩
  have h1 := under_W (nodeL right x) _ _ hv
  have h2 := node_W right x
  have h3 := h.weight
  unfold stepL
  omega
end Go.Proofs.Ytaponaemgolmoaa.Tr
namespace Go.Proofs.Ytaponaemgolmoaa.Tr
open Go.RowKit Go.Proofs.Ytaponaemgolmoaa.PTreeTells Go.Proofs.YtaponaemgolmoaaW.PrintWords Go.Proofs.YtaponaemgolmoaaW.PrintLast
set_option linter.unusedVariables false
set_option linter.unusedSimpArgs false
def growN (right : Bool) (l : List S30) (n : Nat) : S26 × List Nat := (l.take n).foldl (fun s x => stepL right x s) (doc, [])
theorem growN_succ (right : Bool) (l : List S30) (n : Nat) (h : n < l.length) : growN right l (n + 1) = stepL right (rd_T30 l (n : Int)) (growN right l n) := by
  have e : rd_T30 l (n : Int) = l[n] := by
    unfold rd_T30
    rw [Int.toNat_natCast, List.getD_eq_getElem?_getD, List.getElem?_eq_getElem h]
    rfl
  unfold growN
  rw [e, List.take_succ_eq_append_getElem h, List.foldl_append, List.foldl_cons, List.foldl_nil]
theorem growN_grown (right : Bool) (l : List S30) : ∀ n, n ≤ l.length → Grown n (growN right l n)
  | 0, _ => grown_doc
  | n + 1, h => by
    rw [growN_succ right l n (by omega)]
    exact grown_step right n _ _ (growN_grown right l n (by omega))
theorem growL_N (right : Bool) (l : List S30) (n : Nat) (h : n ≤ l.length) (h2 : n ≤ 30) (h3 : ¬ (n < l.length ∧ n < 30)) : growL right l = (growN right l n).1 := by
  unfold growL growS growN
  congr 2
  by_cases e : n = 30
  · rw [e]
  · have hn : n = l.length := by omega
    rw [hn, List.take_of_length_le (by omega), List.take_of_length_le (Nat.le_refl _)]
/-- The tree that is made is small. -/
theorem grow_grown (right : Bool) (l : List S30) : W (growL right l) ≤ 121 ∧ AllN NdOk (growL right l) := by
  by_cases h : l.length ≤ 30
  · rw [growL_N right l l.length (Nat.le_refl _) h (by omega)]
    have := growN_grown right l l.length (Nat.le_refl _)
    exact ⟨by have := this.weight; omega, this.nodes⟩
  · rw [growL_N right l 30 (by omega) (Nat.le_refl _) (by omega)]
    have := growN_grown right l 30 (by omega)
    exact ⟨by have := this.weight; omega, this.nodes⟩
/-- At the loop's head. -/
def GrowRel (w : World) (right : Bool) (l : List S30) (v i : Value) (wr : World) : Prop := ∃ (n : Nat), n ≤ l.length ∧ n ≤ 30 ∧ i = .int .i64 (n : Int) ∧ Aside0 (∃ (A3 : Option Addr) (c3 : Nat) (A5 : Option Addr) (c5 : Nat), wr.heap[w.heap.size + 1]? = some (.cells #[.int .i64 (growN right l n).1.f0, .int .i64 (growN right l n).1.f1, .string (growN right l n).1.f2, .slice A3 (growN right l n).1.f3.length c3, .string (growN right l n).1.f4, .slice A5 (growN right l n).1.f5.length c5] 26 (0, 0)) ∧ TF wr (fun k => w.heap.size + 2 ≤ k) (.agg #[.int .i64 (growN right l n).1.f0, .int .i64 (growN right l n).1.f1, .string (growN right l n).1.f2, .slice A3 (growN right l n).1.f3.length c3, .string (growN right l n).1.f4, .slice A5 (growN right l n).1.f5.length c5]) (growN right l n).1) ∧ Aside0 (WF wr (fun k => w.heap.size + 2 ≤ k) v (growN right l n).2) ∧ Aside0 (wr.heap[w.heap.size]? = some (.cells #[.int .i64 0, .int .i64 0, .string ⟨#[]⟩, .slice none 0 0, .string ⟨#[]⟩, .slice none 0 0] 26 (0, 0))) ∧ Aside0 (Below w.heap.size w wr)
theorem GrowRel.mk' {w : World} {right : Bool} {l : List S30} {v : Value} {wr : World} {n : Nat} {y : S26} {yw : List Nat} {A3 A5 : Option Addr} {c3 c5 : Nat} (h1 : n ≤ l.length) (h2 : n ≤ 30) (hy : growN right l n = (y, yw)) (hb : wr.heap[w.heap.size + 1]? = some (.cells #[.int .i64 y.f0, .int .i64 y.f1, .string y.f2, .slice A3 y.f3.length c3, .string y.f4, .slice A5 y.f5.length c5] 26 (0, 0))) (ht : TF wr (fun k => w.heap.size + 2 ≤ k) (.agg #[.int .i64 y.f0, .int .i64 y.f1, .string y.f2, .slice A3 y.f3.length c3, .string y.f4, .slice A5 y.f5.length c5]) y) (hw : WF wr (fun k => w.heap.size + 2 ≤ k) v yw) (hx : wr.heap[w.heap.size]? = some (.cells #[.int .i64 0, .int .i64 0, .string ⟨#[]⟩, .slice none 0 0, .string ⟨#[]⟩, .slice none 0 0] 26 (0, 0))) (hbl : Below w.heap.size w wr) : GrowRel w right l v (.int .i64 (n : Int)) wr :=
  ⟨n, h1, h2, rfl, ⟨A3, c3, A5, c5, by rw [hy]; exact hb, by rw [hy]; exact ht⟩, ⟨by rw [hy]; exact hw⟩, ⟨hx⟩, ⟨hbl⟩⟩
theorem lit0_WF (W : World) (ok : Nat → Prop) (a : Addr) : WF W ok (.slice (some a) 0 0) [] := fun _ _ => ⟨some a, 0, rfl, Nat.le_refl _, rfl, by simp, fun h => absurd h (by simp)⟩
theorem within_u (a : Int) (n : Nat) (h : n ≤ 2000000) : ∃ u : Nat, u ≤ n ∧ withinL a n = u ∧ arbourbook_Within.f a 0 (n : Int) = some (u : Int) := by
  obtain ⟨t, h0, h1, ht⟩ := within0 a n h
  refine ⟨t.toNat, by omega, by unfold withinL; rw [ht]; rfl, ?_⟩
  rw [ht]
  congr 1
  omega
/-- A node in a block of its own. -/
def NRel (w wr : World) (y : S26) (v8 : Value) (wx : World) : Prop := ∃ (X : Nat) (A3 : Option Addr) (c3 : Nat) (A5 : Option Addr) (c5 : Nat), v8 = .pointer (some ⟨X, 0, none⟩) ∧ wx.heap[X]? = some (.cells #[.int .i64 y.f0, .int .i64 y.f1, .string y.f2, .slice A3 y.f3.length c3, .string y.f4, .slice A5 y.f5.length c5] 26 (0, 0)) ∧ TF wx (fun k => w.heap.size + 2 ≤ k ∧ k ≠ X) (.agg #[.int .i64 y.f0, .int .i64 y.f1, .string y.f2, .slice A3 y.f3.length c3, .string y.f4, .slice A5 y.f5.length c5]) y ∧ Below wr.heap.size wr wx ∧ wr.heap.size ≤ X
/-- Rows of one's own make a tree with a footprint. -/
theorem TF_of_R {w : World} {base : Nat} {ok3 ok5 ok : Nat → Prop} {A3 A5 : Option Addr} {c3 c5 : Nat} (t : S26) (h3 : Kd.R k33 33 w base ok3 (.slice A3 t.f3.length c3) t.f3) (h5 : Kd.R k26 26 w base ok5 (.slice A5 t.f5.length c5) t.f5) (hok : ∀ k, base ≤ k → k < w.heap.size → ok k) : TF w ok (.agg #[.int .i64 t.f0, .int .i64 t.f1, .string t.f2, .slice A3 t.f3.length c3, .string t.f4, .slice A5 t.f5.length c5]) t :=
  TF.mk t (Kd.R_reads' h3).2.1 (Foot.mono (Kd.R_F (Kd.R_bound h3)) (fun k hk => hok k hk.2.1 hk.2.2.1)) (Kd.R_reads' h5).2.1 (Foot.mono (Kd.R_F (Kd.R_bound h5)) (fun k hk => hok k hk.2.1 hk.2.2.1))
set_option maxHeartbeats 20000000 in
set_option maxRecDepth 100000 in
theorem grow (right : Bool) (l : List S30) (A : Option Addr) (c : Nat) (w : World) (hC : k30.C w A l.length l) (_hc : l.length ≤ c) :
    Calls Try.prog 9 #[.slice A l.length c, .bool right] w fun e w' => ∃ v, e = .returned v ∧ TF w' (fun k => w.heap.size ≤ k) v (growL right l) ∧ Below w.heap.size w w' := by
  have HC := hide hC
  have HL9 := hide hC.2.1
  clear hC
  go_enter Try.func9, Try.ntmps9
  go_wp2_with fail
  have hX2 := heap_alloc_new w (.cells #[.int .i64 0, .int .i64 0, .string ⟨#[]⟩, .slice none 0 0, .string ⟨#[]⟩, .slice none 0 0] 26)
  have b1 := below_alloc (Below.refl w.heap.size w) (.cells #[.int .i64 0, .int .i64 0, .string ⟨#[]⟩, .slice none 0 0, .string ⟨#[]⟩, .slice none 0 0] 26)
  have hs1 : (w.alloc (.cells #[.int .i64 0, .int .i64 0, .string ⟨#[]⟩, .slice none 0 0, .string ⟨#[]⟩, .slice none 0 0] 26)).heap.size = w.heap.size + 1 := by simp
  obtain ⟨w1, hw1⟩ : ∃ w1, w.alloc (.cells #[.int .i64 0, .int .i64 0, .string ⟨#[]⟩, .slice none 0 0, .string ⟨#[]⟩, .slice none 0 0] 26) = w1 := ⟨_, rfl⟩
  rw [hw1] at hX2 b1 hs1 ⊢
  have hX3 := heap_alloc_new w1 (.cells #[.int .i64 1, .int .i64 0, .string ⟨#[]⟩, .slice none 0 0, .string ⟨#[]⟩, .slice none 0 0] 26)
  have b2 := below_alloc (Below.refl w1.heap.size w1) (.cells #[.int .i64 1, .int .i64 0, .string ⟨#[]⟩, .slice none 0 0, .string ⟨#[]⟩, .slice none 0 0] 26)
  have b3 := below_alloc b2 (.cells #[] 3)
  have b4 := below_alloc (Below.refl (w1.alloc (.cells #[.int .i64 1, .int .i64 0, .string ⟨#[]⟩, .slice none 0 0, .string ⟨#[]⟩, .slice none 0 0] 26)).heap.size _) (.cells #[] 3)
  rw [hs1] at hX3
  have gX3 := (b4.block (w.heap.size + 1) (by simp [hs1])).trans hX3
  have gX2 := (b3.block w.heap.size (by omega)).trans hX2
  have HB := hide (below_step b1 b3)
  obtain ⟨w4, hw4⟩ : ∃ w4, (w1.alloc (.cells #[.int .i64 1, .int .i64 0, .string ⟨#[]⟩, .slice none 0 0, .string ⟨#[]⟩, .slice none 0 0] 26)).alloc (.cells #[] 3) = w4 := ⟨_, rfl⟩
  rw [hw4] at gX3 gX2 HB ⊢
  have HX3 := hide gX3
  have HX2 := hide gX2
  clear hw4 hw1 hX2 hX3 b1 b2 b3 b4 hs1 gX3 gX2
  go_loopw [6, 7, 8, 9] (fun v i _ _ wr => GrowRel w right l v i wr) (fun _ i _ _ _ => 30 - (intOf i).toNat)
  case atStart => exact ⟨0, Nat.zero_le _, by omega, rfl, ⟨none, 0, none, 0, HX3.out, fun _ _ => ⟨none, 0, none, 0, rfl, Nat.le_refl _, Kd.C_nil _ _, Nat.le_refl _, Kd.C_nil _ _⟩⟩, ⟨lit0_WF _ _ _⟩, ⟨HX2.out⟩, ⟨HB.out⟩⟩
  case round =>
    clear HX3 HX2 HB
    obtain ⟨n, hnl, hn25, rfl, hT, hWy, hX2, hB⟩ := hrel
    obtain ⟨A3, c3, A5, c5, hX3, hTF⟩ := hT.out
    have G := growN_grown right l n hnl
    have HB := hide hB.out
    have HX2 := hide hX2.out
    clear hT hB hX2
    by_cases hlt : n < l.length ∧ n < 30
    · have HS := hide (growN_succ right l n hlt.1)
      obtain ⟨s, hs⟩ : ∃ s, growN right l n = s := ⟨_, rfl⟩
      rw [hs] at HS G hTF hX3
      have hWy' := hWy.out
      rw [hs] at hWy'
      obtain ⟨⟨t0, t1, t2, t3, t4, t5⟩, way⟩ := s
      clear hs hWy
      dsimp only at hTF hX3 hWy'
      have hwl : way.length ≤ 130 := by
        have h1 := way_len' way _ G.valid
        have h2 := G.weight
        dsimp only at h1 h2
        omega
      obtain ⟨Aw, cw, rfl, hcw, hCw⟩ := hWy'.now
      obtain ⟨ad, Ax, cx, rfl, e0, e1, e2, e3, e4, e5, lx, gx⟩ := at_T30 (Kd.C_below HC.out HB.out) (n : Int) (by omega) (by omega)
      rw [Int.toNat_natCast] at e0 e1 e2 e3 e4 e5
      obtain ⟨x, hx⟩ : ∃ x, rd_T30 l (n : Int) = x := ⟨_, rfl⟩
      rw [hx] at HS e0 e1 e2 e3 e4 e5 lx gx
      clear hx
      obtain ⟨u, hu, hwu, hfu⟩ := within_u x.f2 way.length (by omega)
      have hHS : growN right l (n + 1) = underL (nodeL right x) (way.take (way.length - u)) ⟨t0, t1, t2, t3, t4, t5⟩ := by
        rw [HS.out]
        unfold stepL
        rw [hwu]
      obtain ⟨i3, hi3, hs3_⟩ : ∃ i, Try.prog.info? 3 = some i ∧ i.size = 1 := by
        obtain ⟨i0, hi, hzz⟩ := Option.map_eq_some_iff.1 info3
        simp only [Prod.mk.injEq] at hzz
        exact ⟨i0, hi, hzz.2.1⟩
      have hcut := cut_to (P := Try.prog) 45 3 .i64 Try.underlying45 hi3 Aw way.length cw ((way.length : Int) - (u : Int)) (by omega) (by omega) hcw
      have htl : ((way.length : Int) - (u : Int)).toNat = (way.take (way.length - u)).length := by rw [List.length_take]; omega
      rw [htl] at hcut
      clear hs3_ hi3 htl HS hwu
      have HCT := hide (show kI.C wr Aw (way.take (way.length - u)).length ((way.take (way.length - u)).map Int.ofNat) from by
        have h := Kd.C_take hCw (m := way.length - u) (by rw [List.length_map]; omega)
        rw [← List.map_take, List.length_map] at h
        exact h)
      have HVT := hide (valid_take way _ (way.length - u) G.valid)
      have HTL := hide (show (way.take (way.length - u)).length ≤ cw by rw [List.length_take]; omega)
      have hrl : (way.take (way.length - u)).length ≤ 130 := by rw [List.length_take]; omega
      obtain ⟨way', hw'⟩ : ∃ way', way.take (way.length - u) = way' := ⟨_, rfl⟩
      rw [hw'] at hHS hcut HCT HVT HTL hrl
      clear hw'
      have HFU := hide hfu
      have HHS := hide hHS
      have HCUT := hide hcut
      clear hfu hHS hWy' hCw hcw hcut
      obtain ⟨m, hm⟩ : ∃ m, way.length = m := ⟨_, rfl⟩
      obtain ⟨m', hm'⟩ : ∃ m', way'.length = m' := ⟨_, rfl⟩
      rw [hm] at HFU hu hwl HCUT ⊢
      rw [hm'] at HCUT hrl HTL HCT
      have HM' := hide hm'
      have hn1 : (n : Int) < (l.length : Int) := by have := hlt.1; omega
      have hn2 : (n : Int) < 30 := by have := hlt.2; omega
      have HW := hide G.weight
      have HTF := hide hTF
      have HX3 := hide hX3
      have HGX := hide gx
      have HLX := hide lx
      have HE := hide (And.intro e0 (And.intro e1 (And.intro e2 (And.intro e3 (And.intro e4 e5)))))
      have HHD := hide (And.intro (head_some x.f3).1 (And.intro (head_some x.f4).1 (short_some x.f5).1))
      have HS5 := hide (fun (W : World) (h : Below wr.heap.size wr W) => (⟨cellW e0 h, cellW e1 h, cellW e3 h, cellW e4 h, cellW e5 h⟩ : W.cell? (ad.add (n * 6)) = some (.int .i64 x.f0) ∧ W.cell? ⟨(ad.add (n * 6)).block, (ad.add (n * 6)).off + 1, none⟩ = some (.int .i64 x.f1) ∧ W.cell? ⟨(ad.add (n * 6)).block, (ad.add (n * 6)).off + 3, none⟩ = some (.string x.f3) ∧ W.cell? ⟨(ad.add (n * 6)).block, (ad.add (n * 6)).off + 4, none⟩ = some (.string x.f4) ∧ W.cell? ⟨(ad.add (n * 6)).block, (ad.add (n * 6)).off + 5, none⟩ = some (.slice Ax x.f5.length cx)))
      have HW2 := hide (show w.heap.size + 2 ≤ wr.heap.size from Nat.succ_le_of_lt (blk_lt hX3))
      clear hm hm' G hnl hn25 hlt hTF hX3 gx lx e0 e1 e2 e3 e4 e5
      go_upto_region 6 with fail
      go_cut [8] from 22 to 50 (fun v8 wx => NRel w wr (rawN x) v8 wx)
      case first =>
        refine wp_region_held_drew (S := fun W => W.cell? (ad.add (n * 6)) = some (.int .i64 x.f0) ∧ W.cell? ⟨(ad.add (n * 6)).block, (ad.add (n * 6)).off + 1, none⟩ = some (.int .i64 x.f1) ∧ W.cell? ⟨(ad.add (n * 6)).block, (ad.add (n * 6)).off + 3, none⟩ = some (.string x.f3) ∧ W.cell? ⟨(ad.add (n * 6)).block, (ad.add (n * 6)).off + 4, none⟩ = some (.string x.f4) ∧ W.cell? ⟨(ad.add (n * 6)).block, (ad.add (n * 6)).off + 5, none⟩ = some (.slice Ax x.f5.length cx)) (by kernel_rfl) (HS5.out _ (Below.drew (Below.refl _ _))) (fun hHeld => ?_)
        have b0 := Below.drew (Below.refl wr.heap.size wr)
        generalize wr.drew = w0 at b0 hHeld ⊢
        refine wpAnyH_take (i := 0) (oi := ?o0x1) (v := ?v0x1) ?ho0x1 (by kernel_rfl) (by kernel_rfl) (by kernel_rfl) ?hQ0x1 (Or.inl ⟨?hw0x1, ?hy0x1⟩) (by assumption) ?_
        case ho0x1 => (simp only [List.getElem?_toArray, List.getElem?_cons_succ, List.getElem?_cons_zero]; try rfl)
        case hQ0x1 => exact fun _ _ _ h => h
        case hw0x1 => rfl
        case hy0x1 => (intro w hSw; (try dsimp only at hSw); go_simp; (first | done | (with_reducible rfl)))
        (try simp only [Act.put, List.setIfInBounds_toArray, List.set_cons_zero, List.set_cons_succ])
        refine wpAnyH_take (i := 1) (oi := ?o1x2) (v := ?v1x2) ?ho1x2 (by kernel_rfl) (by kernel_rfl) (by kernel_rfl) ?hQ1x2 (Or.inl ⟨?hw1x2, ?hy1x2⟩) (by assumption) ?_
        case ho1x2 => (simp only [List.getElem?_toArray, List.getElem?_cons_succ, List.getElem?_cons_zero]; try rfl)
        case hQ1x2 => exact fun _ _ _ h => h
        case hw1x2 => rfl
        case hy1x2 => (intro w hSw; (try dsimp only at hSw); go_simp; (first | done | (with_reducible rfl)))
        (try simp only [Act.put, List.setIfInBounds_toArray, List.set_cons_zero, List.set_cons_succ])
        refine wpAnyH_take (i := 2) (oi := ?o2x3) (v := ?v2x3) ?ho2x3 (by kernel_rfl) (by kernel_rfl) (by kernel_rfl) ?hQ2x3 (Or.inl ⟨?hw2x3, ?hy2x3⟩) (by assumption) ?_
        case ho2x3 => (simp only [List.getElem?_toArray, List.getElem?_cons_succ, List.getElem?_cons_zero]; try rfl)
        case hQ2x3 => exact fun _ _ _ h => h
        case hw2x3 => rfl
        case hy2x3 => (intro w hSw; (try dsimp only at hSw); go_simp; (first | done | (with_reducible rfl)))
        (try simp only [Act.put, List.setIfInBounds_toArray, List.set_cons_zero, List.set_cons_succ])
        refine wpAnyH_take (i := 3) (oi := ?o3x4) (v := ?v3x4) ?ho3x4 (by kernel_rfl) (by kernel_rfl) (by kernel_rfl) ?hQ3x4 (Or.inl ⟨?hw3x4, ?hy3x4⟩) (by assumption) ?_
        case ho3x4 => (simp only [List.getElem?_toArray, List.getElem?_cons_succ, List.getElem?_cons_zero]; try rfl)
        case hQ3x4 => exact fun _ _ _ h => h
        case hw3x4 => rfl
        case hy3x4 => (intro w hSw; (try dsimp only at hSw); go_simp; (first | done | (with_reducible rfl)))
        (try simp only [Act.put, List.setIfInBounds_toArray, List.set_cons_zero, List.set_cons_succ])
        refine wpAnyH_take (i := 4) (oi := ?o4x5) (v := ?v4x5) ?ho4x5 (by kernel_rfl) (by kernel_rfl) (by kernel_rfl) ?hQ4x5 (Or.inl ⟨?hw4x5, ?hy4x5⟩) (by assumption) ?_
        case ho4x5 => (simp only [List.getElem?_toArray, List.getElem?_cons_succ, List.getElem?_cons_zero]; try rfl)
        case hQ4x5 => exact fun _ _ _ h => h
        case hw4x5 => rfl
        case hy4x5 => (intro w hSw; (try dsimp only at hSw); go_simp; (first | done | (with_reducible rfl)))
        (try simp only [Act.put, List.setIfInBounds_toArray, List.set_cons_zero, List.set_cons_succ])
        refine wpAnyH_take (i := 5) (oi := ?o5x6) (v := ?v5x6) ?ho5x6 (by kernel_rfl) (by kernel_rfl) (by kernel_rfl) ?hQ5x6 (Or.inl ⟨?hw5x6, ?hy5x6⟩) (by assumption) ?_
        case ho5x6 => (simp only [List.getElem?_toArray, List.getElem?_cons_succ, List.getElem?_cons_zero]; try rfl)
        case hQ5x6 => exact fun _ _ _ h => h
        case hw5x6 => rfl
        case hy5x6 => (intro w hSw; (try dsimp only at hSw); go_simp; (first | done | (with_reducible rfl)))
        (try simp only [Act.put, List.setIfInBounds_toArray, List.set_cons_zero, List.set_cons_succ])
        refine wpAnyH_take (i := 6) (oi := ?o6x7) (v := ?v6x7) ?ho6x7 (by kernel_rfl) (by kernel_rfl) (by kernel_rfl) ?hQ6x7 (Or.inl ⟨?hw6x7, ?hy6x7⟩) (by assumption) ?_
        case ho6x7 => (simp only [List.getElem?_toArray, List.getElem?_cons_succ, List.getElem?_cons_zero]; try rfl)
        case hQ6x7 => exact fun _ _ _ h => h
        case hw6x7 => rfl
        case hy6x7 => (intro w hSw; (try dsimp only at hSw); go_simp; (first | done | (with_reducible rfl)))
        (try simp only [Act.put, List.setIfInBounds_toArray, List.set_cons_zero, List.set_cons_succ])
        refine wpAnyH_take (i := 7) (oi := ?o7x8) (v := ?v7x8) ?ho7x8 (by kernel_rfl) (by kernel_rfl) (by kernel_rfl) ?hQ7x8 (Or.inl ⟨?hw7x8, ?hy7x8⟩) (by assumption) ?_
        case ho7x8 => (simp only [List.getElem?_toArray, List.getElem?_cons_succ, List.getElem?_cons_zero]; try rfl)
        case hQ7x8 => exact fun _ _ _ h => h
        case hw7x8 => rfl
        case hy7x8 => (intro w hSw; (try dsimp only at hSw); go_simp; (first | done | (with_reducible rfl)))
        (try simp only [Act.put, List.setIfInBounds_toArray, List.set_cons_zero, List.set_cons_succ])
        refine wpAnyH_take (i := 8) (oi := ?o8x9) (v := ?v8x9) ?ho8x9 (by kernel_rfl) (by kernel_rfl) (by kernel_rfl) ?hQ8x9 (Or.inl ⟨?hw8x9, ?hy8x9⟩) (by assumption) ?_
        case ho8x9 => (simp only [List.getElem?_toArray, List.getElem?_cons_succ, List.getElem?_cons_zero]; try rfl)
        case hQ8x9 => exact fun _ _ _ h => h
        case hw8x9 => rfl
        case hy8x9 => (intro w hSw; (try dsimp only at hSw); go_simp; (first | done | (with_reducible rfl)))
        (try simp only [Act.put, List.setIfInBounds_toArray, List.set_cons_zero, List.set_cons_succ])
        refine wpAnyH_take (i := 9) (oi := ?o9x10) (v := ?v9x10) ?ho9x10 (by kernel_rfl) (by kernel_rfl) (by kernel_rfl) ?hQ9x10 (Or.inl ⟨?hw9x10, ?hy9x10⟩) (by assumption) ?_
        case ho9x10 => (simp only [List.getElem?_toArray, List.getElem?_cons_succ, List.getElem?_cons_zero]; try rfl)
        case hQ9x10 => exact fun _ _ _ h => h
        case hw9x10 => rfl
        case hy9x10 => (intro w hSw; (try dsimp only at hSw); go_simp; (first | done | (with_reducible rfl)))
        (try simp only [Act.put, List.setIfInBounds_toArray, List.set_cons_zero, List.set_cons_succ])
        refine wpAnyH_take (i := 10) (oi := ?o10x11) (v := ?v10x11) ?ho10x11 (by kernel_rfl) (by kernel_rfl) (by kernel_rfl) ?hQ10x11 (Or.inl ⟨?hw10x11, ?hy10x11⟩) (by assumption) ?_
        case ho10x11 => (simp only [List.getElem?_toArray, List.getElem?_cons_succ, List.getElem?_cons_zero]; try rfl)
        case hQ10x11 => exact fun _ _ _ h => h
        case hw10x11 => rfl
        case hy10x11 => (intro w hSw; (try dsimp only at hSw); go_simp; (first | done | (with_reducible rfl)))
        (try simp only [Act.put, List.setIfInBounds_toArray, List.set_cons_zero, List.set_cons_succ])
        refine wpAnyH_take (i := 11) (oi := ?o11x12) (v := ?v11x12) ?ho11x12 (by kernel_rfl) (by kernel_rfl) (by kernel_rfl) ?hQ11x12 (Or.inl ⟨?hw11x12, ?hy11x12⟩) (by assumption) ?_
        case ho11x12 => (simp only [List.getElem?_toArray, List.getElem?_cons_succ, List.getElem?_cons_zero]; try rfl)
        case hQ11x12 => exact fun _ _ _ h => h
        case hw11x12 => rfl
        case hy11x12 => (intro w hSw; (try dsimp only at hSw); go_simp; (first | done | (with_reducible rfl)))
        (try simp only [Act.put, List.setIfInBounds_toArray, List.set_cons_zero, List.set_cons_succ])
        refine wpAnyH_take (i := 12) (oi := ?o12x13) (v := ?v12x13) ?ho12x13 (by kernel_rfl) (by kernel_rfl) (by kernel_rfl) ?hQ12x13 (Or.inl ⟨?hw12x13, ?hy12x13⟩) (by assumption) ?_
        case ho12x13 => (simp only [List.getElem?_toArray, List.getElem?_cons_succ, List.getElem?_cons_zero]; try rfl)
        case hQ12x13 => exact fun _ _ _ h => h
        case hw12x13 => rfl
        case hy12x13 => (intro w hSw; (try dsimp only at hSw); go_simp; (first | done | (with_reducible rfl)))
        (try simp only [Act.put, List.setIfInBounds_toArray, List.set_cons_zero, List.set_cons_succ])
        refine wpAnyH_take (i := 13) (oi := ?o13x14) (v := ?v13x14) ?ho13x14 (by kernel_rfl) (by kernel_rfl) (by kernel_rfl) ?hQ13x14 (Or.inl ⟨?hw13x14, ?hy13x14⟩) (by assumption) ?_
        case ho13x14 => (simp only [List.getElem?_toArray, List.getElem?_cons_succ, List.getElem?_cons_zero]; try rfl)
        case hQ13x14 => exact fun _ _ _ h => h
        case hw13x14 => rfl
        case hy13x14 => (intro w hSw; (try dsimp only at hSw); go_simp; (first | done | (with_reducible rfl)))
        (try simp only [Act.put, List.setIfInBounds_toArray, List.set_cons_zero, List.set_cons_succ])
        refine wpAnyH_take (i := 14) (oi := ?o14x15) (v := ?v14x15) ?ho14x15 (by kernel_rfl) (by kernel_rfl) (by kernel_rfl) ?hQ14x15 (Or.inl ⟨?hw14x15, ?hy14x15⟩) (by assumption) ?_
        case ho14x15 => (simp only [List.getElem?_toArray, List.getElem?_cons_succ, List.getElem?_cons_zero]; try rfl)
        case hQ14x15 => exact fun _ _ _ h => h
        case hw14x15 => rfl
        case hy14x15 => (intro w hSw; (try dsimp only at hSw); go_simp; (first | done | (with_reducible rfl)))
        (try simp only [Act.put, List.setIfInBounds_toArray, List.set_cons_zero, List.set_cons_succ])
        refine wpAnyH_take (i := 16) (oi := ?o16x16) (v := ?v16x16) ?ho16x16 (by kernel_rfl) (by kernel_rfl) (by kernel_rfl) ?hQ16x16 (Or.inl ⟨?hw16x16, ?hy16x16⟩) (by assumption) ?_
        case ho16x16 => (simp only [List.getElem?_toArray, List.getElem?_cons_succ, List.getElem?_cons_zero]; try rfl)
        case hQ16x16 => exact fun _ _ _ h => h
        case hw16x16 => rfl
        case hy16x16 => (intro w hSw; (try dsimp only at hSw); go_simp; (first | done | (with_reducible rfl)))
        (try simp only [Act.put, List.setIfInBounds_toArray, List.set_cons_zero, List.set_cons_succ])
        refine wpAnyH_take (i := 17) (oi := ?o17x17) (v := ?v17x17) ?ho17x17 (by kernel_rfl) (by kernel_rfl) (by kernel_rfl) ?hQ17x17 (Or.inl ⟨?hw17x17, ?hy17x17⟩) (by assumption) ?_
        case ho17x17 => (simp only [List.getElem?_toArray, List.getElem?_cons_succ, List.getElem?_cons_zero]; try rfl)
        case hQ17x17 => exact fun _ _ _ h => h
        case hw17x17 => rfl
        case hy17x17 => (intro w hSw; (try dsimp only at hSw); go_simp; (first | done | (with_reducible rfl)))
        (try simp only [Act.put, List.setIfInBounds_toArray, List.set_cons_zero, List.set_cons_succ])
        refine wpAnyH_take (i := 18) (oi := ?o18x18) (v := ?v18x18) ?ho18x18 (by kernel_rfl) (by kernel_rfl) (by kernel_rfl) ?hQ18x18 (Or.inl ⟨?hw18x18, ?hy18x18⟩) (by assumption) ?_
        case ho18x18 => (simp only [List.getElem?_toArray, List.getElem?_cons_succ, List.getElem?_cons_zero]; try rfl)
        case hQ18x18 => exact fun _ _ _ h => h
        case hw18x18 => rfl
        case hy18x18 => (intro w hSw; (try dsimp only at hSw); go_simp; (first | done | (with_reducible rfl)))
        (try simp only [Act.put, List.setIfInBounds_toArray, List.set_cons_zero, List.set_cons_succ])
        refine wpAnyH_take (i := 19) (oi := ?o19x19) (v := ?v19x19) ?ho19x19 (by kernel_rfl) (by kernel_rfl) (by kernel_rfl) ?hQ19x19 (Or.inl ⟨?hw19x19, ?hy19x19⟩) (by assumption) ?_
        case ho19x19 => (simp only [List.getElem?_toArray, List.getElem?_cons_succ, List.getElem?_cons_zero]; try rfl)
        case hQ19x19 => exact fun _ _ _ h => h
        case hw19x19 => rfl
        case hy19x19 => (intro w hSw; (try dsimp only at hSw); go_simp; (first | done | (with_reducible rfl)))
        (try simp only [Act.put, List.setIfInBounds_toArray, List.set_cons_zero, List.set_cons_succ])
        refine wpAnyH_take (i := 20) (oi := ?o20x20) (v := ?v20x20) ?ho20x20 (by kernel_rfl) (by kernel_rfl) (by kernel_rfl) ?hQ20x20 (Or.inl ⟨?hw20x20, ?hy20x20⟩) (by assumption) ?_
        case ho20x20 => (simp only [List.getElem?_toArray, List.getElem?_cons_succ, List.getElem?_cons_zero]; try rfl)
        case hQ20x20 => exact fun _ _ _ h => h
        case hw20x20 => rfl
        case hy20x20 => (intro w hSw; (try dsimp only at hSw); go_simp; (first | done | (with_reducible rfl)))
        (try simp only [Act.put, List.setIfInBounds_toArray, List.set_cons_zero, List.set_cons_succ])
        refine wpAnyH_take (i := 22) (oi := ?o22x21) (v := ?v22x21) ?ho22x21 (by kernel_rfl) (by kernel_rfl) (by kernel_rfl) ?hQ22x21 (Or.inl ⟨?hw22x21, ?hy22x21⟩) (by assumption) ?_
        case ho22x21 => (simp only [List.getElem?_toArray, List.getElem?_cons_succ, List.getElem?_cons_zero]; try rfl)
        case hQ22x21 => exact fun _ _ _ h => h
        case hw22x21 => rfl
        case hy22x21 => (intro w hSw; (try dsimp only at hSw); go_simp; (first | done | (with_reducible rfl)))
        (try simp only [Act.put, List.setIfInBounds_toArray, List.set_cons_zero, List.set_cons_succ])
        refine wpAnyH_take (i := 23) (oi := ?o23x22) (v := ?v23x22) ?ho23x22 (by kernel_rfl) (by kernel_rfl) (by kernel_rfl) ?hQ23x22 (Or.inl ⟨?hw23x22, ?hy23x22⟩) (by assumption) ?_
        case ho23x22 => (simp only [List.getElem?_toArray, List.getElem?_cons_succ, List.getElem?_cons_zero]; try rfl)
        case hQ23x22 => exact fun _ _ _ h => h
        case hw23x22 => rfl
        case hy23x22 => (intro w hSw; (try dsimp only at hSw); go_simp; (first | done | (with_reducible rfl)))
        (try simp only [Act.put, List.setIfInBounds_toArray, List.set_cons_zero, List.set_cons_succ])
        refine wpAnyH_take (i := 24) (oi := ?o24x23) (v := ?v24x23) ?ho24x23 (by kernel_rfl) (by kernel_rfl) (by kernel_rfl) ?hQ24x23 (Or.inl ⟨?hw24x23, ?hy24x23⟩) (by assumption) ?_
        case ho24x23 => (simp only [List.getElem?_toArray, List.getElem?_cons_succ, List.getElem?_cons_zero]; try rfl)
        case hQ24x23 => exact fun _ _ _ h => h
        case hw24x23 => rfl
        case hy24x23 => (intro w hSw; (try dsimp only at hSw); go_simp; (first | done | (with_reducible rfl)))
        (try simp only [Act.put, List.setIfInBounds_toArray, List.set_cons_zero, List.set_cons_succ])
        refine wpAnyH_take (i := 25) (oi := ?o25x24) (v := ?v25x24) ?ho25x24 (by kernel_rfl) (by kernel_rfl) (by kernel_rfl) ?hQ25x24 (Or.inl ⟨?hw25x24, ?hy25x24⟩) (by assumption) ?_
        case ho25x24 => (simp only [List.getElem?_toArray, List.getElem?_cons_succ, List.getElem?_cons_zero]; try rfl)
        case hQ25x24 => exact fun _ _ _ h => h
        case hw25x24 => rfl
        case hy25x24 => (intro w hSw; (try dsimp only at hSw); go_simp; (first | done | (with_reducible rfl)))
        (try simp only [Act.put, List.setIfInBounds_toArray, List.set_cons_zero, List.set_cons_succ])
        refine wpAnyH_take (i := 26) (oi := ?o26x25) (v := ?v26x25) ?ho26x25 (by kernel_rfl) (by kernel_rfl) (by kernel_rfl) ?hQ26x25 (Or.inl ⟨?hw26x25, ?hy26x25⟩) (by assumption) ?_
        case ho26x25 => (simp only [List.getElem?_toArray, List.getElem?_cons_succ, List.getElem?_cons_zero]; try rfl)
        case hQ26x25 => exact fun _ _ _ h => h
        case hw26x25 => rfl
        case hy26x25 => (intro w hSw; (try dsimp only at hSw); go_simp; (first | done | (with_reducible rfl)))
        (try simp only [Act.put, List.setIfInBounds_toArray, List.set_cons_zero, List.set_cons_succ])
        refine wpAnyH_ready (rs := [15, 29]) (by kernel_rfl) (by simp) ?_
        refine (AllReadyH.cons (i := 15) (o := ?o15y26) ?ho15y26 (fun K hK => ?_) (AllReadyH.cons (i := 29) (o := ?o29y26) ?ho29y26 (fun K hK => ?_) AllReadyH.nil))
        case ho15y26 => (simp only [List.getElem?_toArray, List.getElem?_cons_succ, List.getElem?_cons_zero]; try rfl)
        case ho29y26 => (simp only [List.getElem?_toArray, List.getElem?_cons_succ, List.getElem?_cons_zero]; try rfl)
        · go_simp
          go_at_call 18
          refine (arbourkeep_Head.calls x.f3 9 (headL x.f3) _ HHD.out.1).mono ?_
          rintro e wn26 ⟨rfl, hd26⟩
          have bs26 := Drawn0.below hd26
          have bb26 := below_step b0 bs26
          clear hd26
          refine hK.out _ _ (HS5.out _ bb26) (fun _ => ?_)
          clear hK K
          (try simp only [Act.put, List.setIfInBounds_toArray, List.set_cons_zero, List.set_cons_succ])
          refine wpAnyH_ready (rs := [21, 29]) (by kernel_rfl) (by simp) ?_
          refine (AllReadyH.cons (i := 21) (o := ?o21y27) ?ho21y27 (fun K hK => ?_) (AllReadyH.cons (i := 29) (o := ?o29y27) ?ho29y27 (fun K hK => ?_) AllReadyH.nil))
          case ho21y27 => (simp only [List.getElem?_toArray, List.getElem?_cons_succ, List.getElem?_cons_zero]; try rfl)
          case ho29y27 => (simp only [List.getElem?_toArray, List.getElem?_cons_succ, List.getElem?_cons_zero]; try rfl)
          · go_simp
            go_at_call 18
            refine (arbourkeep_Head.calls x.f4 9 (headL x.f4) _ HHD.out.2.1).mono ?_
            rintro e wn27 ⟨rfl, hd27⟩
            have bs27 := Drawn0.below hd27
            have bb27 := below_step bb26 bs27
            clear hd27
            refine hK.out _ _ (HS5.out _ bb27) (fun _ => ?_)
            clear hK K
            (try simp only [Act.put, List.setIfInBounds_toArray, List.set_cons_zero, List.set_cons_succ])
            refine wpAnyH_ready (rs := [27, 29]) (by kernel_rfl) (by simp) ?_
            refine (AllReadyH.cons (i := 27) (o := ?o27y28) ?ho27y28 (fun K hK => ?_) (AllReadyH.cons (i := 29) (o := ?o29y28) ?ho29y28 (fun K hK => ?_) AllReadyH.nil))
            case ho27y28 => (simp only [List.getElem?_toArray, List.getElem?_cons_succ, List.getElem?_cons_zero]; try rfl)
            case ho29y28 => (simp only [List.getElem?_toArray, List.getElem?_cons_succ, List.getElem?_cons_zero]; try rfl)
            · go_simp
              go_at_call 22
              refine (arbourkeep_Short.calls 40 Ax cx x.f5 (shortL x.f5) _ (Kd.C_below HGX.out bb27) HLX.out HHD.out.2.2).mono ?_
              rintro e wn28 ⟨vs, rfl, hrs, bs28⟩
              obtain ⟨AS, cS, rfl⟩ := Kd.R_slice hrs
              have bb28 := below_step bb27 bs28
              have hT := hide (TF_of_R (ok := fun k => w.heap.size + 2 ≤ k ∧ k < wn28.heap.size) (rawN x) (A3 := AS) (c3 := cS) hrs (Kd.R_nil k26 26 _ _ (fun _ => True)) (fun k hk hl => ⟨Nat.le_trans HW2.out (Nat.le_trans bb27.size hk), hl⟩))
              clear hrs
              refine hK.out _ _ (HS5.out _ bb28) (fun _ => ?_)
              clear hK K
              (try simp only [Act.put, List.setIfInBounds_toArray, List.set_cons_zero, List.set_cons_succ])
              refine wpAnyH_take (i := 28) (oi := ?o28x29) (v := ?v28x29) ?ho28x29 (by kernel_rfl) (by kernel_rfl) (by kernel_rfl) ?hQ28x29 (Or.inl ⟨?hw28x29, ?hy28x29⟩) (by assumption) ?_
              case ho28x29 => (simp only [List.getElem?_toArray, List.getElem?_cons_succ, List.getElem?_cons_zero]; try rfl)
              case hQ28x29 => exact fun _ _ _ h => h
              case hw28x29 => rfl
              case hy28x29 => (intro w hSw; (try dsimp only at hSw); go_simp; (first | done | (with_reducible rfl)))
              (try simp only [Act.put, List.setIfInBounds_toArray, List.set_cons_zero, List.set_cons_succ])
              refine wpAnyH_ready (rs := [29]) (by kernel_rfl) (by simp) ?_
              refine (AllReadyH.cons (i := 29) (o := ?o29y30) ?ho29y30 (fun K hK => ?_) AllReadyH.nil)
              case ho29y30 => (simp only [List.getElem?_toArray, List.getElem?_cons_succ, List.getElem?_cons_zero]; try rfl)
              · go_simp
                have hx30 := heap_alloc_new wn28 (.cells #[.int .i64 0, .int .i64 0, .string ⟨#[]⟩, .slice none 0 0, .string ⟨#[]⟩, .slice none 0 0] 26)
                have bs30 := below_alloc (Below.refl wn28.heap.size wn28) (.cells #[.int .i64 0, .int .i64 0, .string ⟨#[]⟩, .slice none 0 0, .string ⟨#[]⟩, .slice none 0 0] 26)
                generalize wn28.alloc (.cells #[.int .i64 0, .int .i64 0, .string ⟨#[]⟩, .slice none 0 0, .string ⟨#[]⟩, .slice none 0 0] 26) = wn30 at hx30 bs30 ⊢
                have bb30 := below_step bb28 bs30
                have hT2 := hide (TF.mono (hT.out.below bs30) (ok' := fun k => w.heap.size + 2 ≤ k ∧ k ≠ wn28.heap.size) (fun k hk => ⟨hk.1, Nat.ne_of_lt hk.2⟩))
                refine hK.out _ _ (HS5.out _ bb30) (fun _ => ?_)
                clear hK K
                (try simp only [Act.put, List.setIfInBounds_toArray, List.set_cons_zero, List.set_cons_succ])
                have fz0 := blk_frozen hx30 0
                have cz0 := cell_of_row _ _ 0 _ _ _ hx30
                have fz1 := blk_frozen hx30 1
                have cz1 := cell_of_row _ _ 1 _ _ _ hx30
                have fz2 := blk_frozen hx30 2
                have cz2 := cell_of_row _ _ 2 _ _ _ hx30
                have fz3 := blk_frozen hx30 3
                have cz3 := cell_of_row _ _ 3 _ _ _ hx30
                have fz4 := blk_frozen hx30 4
                have cz4 := cell_of_row _ _ 4 _ _ _ hx30
                have fz5 := blk_frozen hx30 5
                have cz5 := cell_of_row _ _ 5 _ _ _ hx30
                refine wpAnyH_ready (rs := [30]) (by kernel_rfl) (by simp) ?_
                refine (AllReadyH.cons (i := 30) (o := ?o30y31) ?ho30y31 (fun K hK => ?_) AllReadyH.nil)
                case ho30y31 => (simp only [List.getElem?_toArray, List.getElem?_cons_succ, List.getElem?_cons_zero]; try rfl)
                · go_simp
                  have hgX : wr.heap.size ≤ wn28.heap.size := bb28.size
                  have hfin := blk_set (blk_set (blk_set (blk_set (blk_set (blk_set hx30 0 (.int .i64 x.f0)) 1 (.int .i64 x.f1)) 2 (.string (headL x.f3))) 3 (.slice AS (shortL x.f5).length cS)) 4 (.string (headL x.f4))) 5 (.slice none 0 0)
                  have bF := ((((((bb30.setCell (p := ⟨wn28.heap.size, 0, none⟩) (hgX) (.int .i64 x.f0)).setCell (p := ⟨wn28.heap.size, 1, none⟩) (hgX) (.int .i64 x.f1)).setCell (p := ⟨wn28.heap.size, 2, none⟩) (hgX) (.string (headL x.f3))).setCell (p := ⟨wn28.heap.size, 3, none⟩) (hgX) (.slice AS (shortL x.f5).length cS)).setCell (p := ⟨wn28.heap.size, 4, none⟩) (hgX) (.string (headL x.f4))).setCell (p := ⟨wn28.heap.size, 5, none⟩) (hgX) (.slice none 0 0))
                  have hTF := hide (hT2.out.step (fun k hk _ => set6_far (g := wn28.heap.size) (a0 := 0) (a1 := 1) (a2 := 2) (a3 := 3) (a4 := 4) (a5 := 5) (v0 := (.int .i64 x.f0)) (v1 := (.int .i64 x.f1)) (v2 := (.string (headL x.f3))) (v3 := (.slice AS (shortL x.f5).length cS)) (v4 := (.string (headL x.f4))) (v5 := (.slice none 0 0)) k hk.2))
                  refine hK.out _ _ (HS5.out _ bF) (fun _ => ?_)
                  clear hK K
                  (try simp only [Act.put, List.setIfInBounds_toArray, List.set_cons_zero, List.set_cons_succ])
                  refine wpAnyH_done (by kernel_rfl) ?_ _
                  go_wp2_with fail
                  go_meet
                  exact ⟨_, _, _, none, 0, rfl, hfin, hTF.out, bF, hgX⟩
            · go_simp
              have hx28 := heap_alloc_new wn27 (.cells #[.int .i64 0, .int .i64 0, .string ⟨#[]⟩, .slice none 0 0, .string ⟨#[]⟩, .slice none 0 0] 26)
              have bs28 := below_alloc (Below.refl wn27.heap.size wn27) (.cells #[.int .i64 0, .int .i64 0, .string ⟨#[]⟩, .slice none 0 0, .string ⟨#[]⟩, .slice none 0 0] 26)
              generalize wn27.alloc (.cells #[.int .i64 0, .int .i64 0, .string ⟨#[]⟩, .slice none 0 0, .string ⟨#[]⟩, .slice none 0 0] 26) = wn28 at hx28 bs28 ⊢
              have bb28 := below_step bb27 bs28
              refine hK.out _ _ (HS5.out _ bb28) (fun _ => ?_)
              clear hK K
              (try simp only [Act.put, List.setIfInBounds_toArray, List.set_cons_zero, List.set_cons_succ])
              refine wpAnyH_ready (rs := [27]) (by kernel_rfl) (by simp) ?_
              refine (AllReadyH.cons (i := 27) (o := ?o27y32) ?ho27y32 (fun K hK => ?_) AllReadyH.nil)
              case ho27y32 => (simp only [List.getElem?_toArray, List.getElem?_cons_succ, List.getElem?_cons_zero]; try rfl)
              · go_simp
                go_at_call 22
                refine (arbourkeep_Short.calls 40 Ax cx x.f5 (shortL x.f5) _ (Kd.C_below HGX.out bb28) HLX.out HHD.out.2.2).mono ?_
                rintro e wn32 ⟨vs, rfl, hrs, bs32⟩
                obtain ⟨AS, cS, rfl⟩ := Kd.R_slice hrs
                have bb32 := below_step bb28 bs32
                have hx32 := (bs32.block _ (blk_lt hx28)).trans hx28
                have hT := hide (TF_of_R (ok := fun k => w.heap.size + 2 ≤ k ∧ k ≠ wn27.heap.size) (rawN x) (A3 := AS) (c3 := cS) hrs (Kd.R_nil k26 26 _ _ (fun _ => True)) (fun k hk hl => ⟨Nat.le_trans HW2.out (Nat.le_trans bb28.size hk), fun e => absurd (e ▸ hk) (Nat.not_le_of_lt (blk_lt hx28))⟩))
                clear hrs
                refine hK.out _ _ (HS5.out _ bb32) (fun _ => ?_)
                clear hK K
                (try simp only [Act.put, List.setIfInBounds_toArray, List.set_cons_zero, List.set_cons_succ])
                refine wpAnyH_take (i := 28) (oi := ?o28x33) (v := ?v28x33) ?ho28x33 (by kernel_rfl) (by kernel_rfl) (by kernel_rfl) ?hQ28x33 (Or.inl ⟨?hw28x33, ?hy28x33⟩) (by assumption) ?_
                case ho28x33 => (simp only [List.getElem?_toArray, List.getElem?_cons_succ, List.getElem?_cons_zero]; try rfl)
                case hQ28x33 => exact fun _ _ _ h => h
                case hw28x33 => rfl
                case hy28x33 => (intro w hSw; (try dsimp only at hSw); go_simp; (first | done | (with_reducible rfl)))
                (try simp only [Act.put, List.setIfInBounds_toArray, List.set_cons_zero, List.set_cons_succ])
                have fz0 := blk_frozen hx32 0
                have cz0 := cell_of_row _ _ 0 _ _ _ hx32
                have fz1 := blk_frozen hx32 1
                have cz1 := cell_of_row _ _ 1 _ _ _ hx32
                have fz2 := blk_frozen hx32 2
                have cz2 := cell_of_row _ _ 2 _ _ _ hx32
                have fz3 := blk_frozen hx32 3
                have cz3 := cell_of_row _ _ 3 _ _ _ hx32
                have fz4 := blk_frozen hx32 4
                have cz4 := cell_of_row _ _ 4 _ _ _ hx32
                have fz5 := blk_frozen hx32 5
                have cz5 := cell_of_row _ _ 5 _ _ _ hx32
                refine wpAnyH_ready (rs := [30]) (by kernel_rfl) (by simp) ?_
                refine (AllReadyH.cons (i := 30) (o := ?o30y34) ?ho30y34 (fun K hK => ?_) AllReadyH.nil)
                case ho30y34 => (simp only [List.getElem?_toArray, List.getElem?_cons_succ, List.getElem?_cons_zero]; try rfl)
                · go_simp
                  have hgX : wr.heap.size ≤ wn27.heap.size := bb27.size
                  have hfin := blk_set (blk_set (blk_set (blk_set (blk_set (blk_set hx32 0 (.int .i64 x.f0)) 1 (.int .i64 x.f1)) 2 (.string (headL x.f3))) 3 (.slice AS (shortL x.f5).length cS)) 4 (.string (headL x.f4))) 5 (.slice none 0 0)
                  have bF := ((((((bb32.setCell (p := ⟨wn27.heap.size, 0, none⟩) (hgX) (.int .i64 x.f0)).setCell (p := ⟨wn27.heap.size, 1, none⟩) (hgX) (.int .i64 x.f1)).setCell (p := ⟨wn27.heap.size, 2, none⟩) (hgX) (.string (headL x.f3))).setCell (p := ⟨wn27.heap.size, 3, none⟩) (hgX) (.slice AS (shortL x.f5).length cS)).setCell (p := ⟨wn27.heap.size, 4, none⟩) (hgX) (.string (headL x.f4))).setCell (p := ⟨wn27.heap.size, 5, none⟩) (hgX) (.slice none 0 0))
                  have hTF := hide (hT.out.step (fun k hk _ => set6_far (g := wn27.heap.size) (a0 := 0) (a1 := 1) (a2 := 2) (a3 := 3) (a4 := 4) (a5 := 5) (v0 := (.int .i64 x.f0)) (v1 := (.int .i64 x.f1)) (v2 := (.string (headL x.f3))) (v3 := (.slice AS (shortL x.f5).length cS)) (v4 := (.string (headL x.f4))) (v5 := (.slice none 0 0)) k hk.2))
                  refine hK.out _ _ (HS5.out _ bF) (fun _ => ?_)
                  clear hK K
                  (try simp only [Act.put, List.setIfInBounds_toArray, List.set_cons_zero, List.set_cons_succ])
                  refine wpAnyH_done (by kernel_rfl) ?_ _
                  go_wp2_with fail
                  go_meet
                  exact ⟨_, _, _, none, 0, rfl, hfin, hTF.out, bF, hgX⟩
          · go_simp
            have hx27 := heap_alloc_new wn26 (.cells #[.int .i64 0, .int .i64 0, .string ⟨#[]⟩, .slice none 0 0, .string ⟨#[]⟩, .slice none 0 0] 26)
            have bs27 := below_alloc (Below.refl wn26.heap.size wn26) (.cells #[.int .i64 0, .int .i64 0, .string ⟨#[]⟩, .slice none 0 0, .string ⟨#[]⟩, .slice none 0 0] 26)
            generalize wn26.alloc (.cells #[.int .i64 0, .int .i64 0, .string ⟨#[]⟩, .slice none 0 0, .string ⟨#[]⟩, .slice none 0 0] 26) = wn27 at hx27 bs27 ⊢
            have bb27 := below_step bb26 bs27
            refine hK.out _ _ (HS5.out _ bb27) (fun _ => ?_)
            clear hK K
            (try simp only [Act.put, List.setIfInBounds_toArray, List.set_cons_zero, List.set_cons_succ])
            refine wpAnyH_ready (rs := [21]) (by kernel_rfl) (by simp) ?_
            refine (AllReadyH.cons (i := 21) (o := ?o21y35) ?ho21y35 (fun K hK => ?_) AllReadyH.nil)
            case ho21y35 => (simp only [List.getElem?_toArray, List.getElem?_cons_succ, List.getElem?_cons_zero]; try rfl)
            · go_simp
              go_at_call 18
              refine (arbourkeep_Head.calls x.f4 9 (headL x.f4) _ HHD.out.2.1).mono ?_
              rintro e wn35 ⟨rfl, hd35⟩
              have bs35 := Drawn0.below hd35
              have bb35 := below_step bb27 bs35
              have hx35 := (bs35.block _ (blk_lt hx27)).trans hx27
              clear hd35
              refine hK.out _ _ (HS5.out _ bb35) (fun _ => ?_)
              clear hK K
              (try simp only [Act.put, List.setIfInBounds_toArray, List.set_cons_zero, List.set_cons_succ])
              refine wpAnyH_ready (rs := [27]) (by kernel_rfl) (by simp) ?_
              refine (AllReadyH.cons (i := 27) (o := ?o27y36) ?ho27y36 (fun K hK => ?_) AllReadyH.nil)
              case ho27y36 => (simp only [List.getElem?_toArray, List.getElem?_cons_succ, List.getElem?_cons_zero]; try rfl)
              · go_simp
                go_at_call 22
                refine (arbourkeep_Short.calls 40 Ax cx x.f5 (shortL x.f5) _ (Kd.C_below HGX.out bb35) HLX.out HHD.out.2.2).mono ?_
                rintro e wn36 ⟨vs, rfl, hrs, bs36⟩
                obtain ⟨AS, cS, rfl⟩ := Kd.R_slice hrs
                have bb36 := below_step bb35 bs36
                have hx36 := (bs36.block _ (blk_lt hx35)).trans hx35
                have hT := hide (TF_of_R (ok := fun k => w.heap.size + 2 ≤ k ∧ k ≠ wn26.heap.size) (rawN x) (A3 := AS) (c3 := cS) hrs (Kd.R_nil k26 26 _ _ (fun _ => True)) (fun k hk hl => ⟨Nat.le_trans HW2.out (Nat.le_trans bb35.size hk), fun e => absurd (e ▸ hk) (Nat.not_le_of_lt (blk_lt hx35))⟩))
                clear hrs
                refine hK.out _ _ (HS5.out _ bb36) (fun _ => ?_)
                clear hK K
                (try simp only [Act.put, List.setIfInBounds_toArray, List.set_cons_zero, List.set_cons_succ])
                refine wpAnyH_take (i := 28) (oi := ?o28x37) (v := ?v28x37) ?ho28x37 (by kernel_rfl) (by kernel_rfl) (by kernel_rfl) ?hQ28x37 (Or.inl ⟨?hw28x37, ?hy28x37⟩) (by assumption) ?_
                case ho28x37 => (simp only [List.getElem?_toArray, List.getElem?_cons_succ, List.getElem?_cons_zero]; try rfl)
                case hQ28x37 => exact fun _ _ _ h => h
                case hw28x37 => rfl
                case hy28x37 => (intro w hSw; (try dsimp only at hSw); go_simp; (first | done | (with_reducible rfl)))
                (try simp only [Act.put, List.setIfInBounds_toArray, List.set_cons_zero, List.set_cons_succ])
                have fz0 := blk_frozen hx36 0
                have cz0 := cell_of_row _ _ 0 _ _ _ hx36
                have fz1 := blk_frozen hx36 1
                have cz1 := cell_of_row _ _ 1 _ _ _ hx36
                have fz2 := blk_frozen hx36 2
                have cz2 := cell_of_row _ _ 2 _ _ _ hx36
                have fz3 := blk_frozen hx36 3
                have cz3 := cell_of_row _ _ 3 _ _ _ hx36
                have fz4 := blk_frozen hx36 4
                have cz4 := cell_of_row _ _ 4 _ _ _ hx36
                have fz5 := blk_frozen hx36 5
                have cz5 := cell_of_row _ _ 5 _ _ _ hx36
                refine wpAnyH_ready (rs := [30]) (by kernel_rfl) (by simp) ?_
                refine (AllReadyH.cons (i := 30) (o := ?o30y38) ?ho30y38 (fun K hK => ?_) AllReadyH.nil)
                case ho30y38 => (simp only [List.getElem?_toArray, List.getElem?_cons_succ, List.getElem?_cons_zero]; try rfl)
                · go_simp
                  have hgX : wr.heap.size ≤ wn26.heap.size := bb26.size
                  have hfin := blk_set (blk_set (blk_set (blk_set (blk_set (blk_set hx36 0 (.int .i64 x.f0)) 1 (.int .i64 x.f1)) 2 (.string (headL x.f3))) 3 (.slice AS (shortL x.f5).length cS)) 4 (.string (headL x.f4))) 5 (.slice none 0 0)
                  have bF := ((((((bb36.setCell (p := ⟨wn26.heap.size, 0, none⟩) (hgX) (.int .i64 x.f0)).setCell (p := ⟨wn26.heap.size, 1, none⟩) (hgX) (.int .i64 x.f1)).setCell (p := ⟨wn26.heap.size, 2, none⟩) (hgX) (.string (headL x.f3))).setCell (p := ⟨wn26.heap.size, 3, none⟩) (hgX) (.slice AS (shortL x.f5).length cS)).setCell (p := ⟨wn26.heap.size, 4, none⟩) (hgX) (.string (headL x.f4))).setCell (p := ⟨wn26.heap.size, 5, none⟩) (hgX) (.slice none 0 0))
                  have hTF := hide (hT.out.step (fun k hk _ => set6_far (g := wn26.heap.size) (a0 := 0) (a1 := 1) (a2 := 2) (a3 := 3) (a4 := 4) (a5 := 5) (v0 := (.int .i64 x.f0)) (v1 := (.int .i64 x.f1)) (v2 := (.string (headL x.f3))) (v3 := (.slice AS (shortL x.f5).length cS)) (v4 := (.string (headL x.f4))) (v5 := (.slice none 0 0)) k hk.2))
                  refine hK.out _ _ (HS5.out _ bF) (fun _ => ?_)
                  clear hK K
                  (try simp only [Act.put, List.setIfInBounds_toArray, List.set_cons_zero, List.set_cons_succ])
                  refine wpAnyH_done (by kernel_rfl) ?_ _
                  go_wp2_with fail
                  go_meet
                  exact ⟨_, _, _, none, 0, rfl, hfin, hTF.out, bF, hgX⟩
        · go_simp
          have hx26 := heap_alloc_new w0 (.cells #[.int .i64 0, .int .i64 0, .string ⟨#[]⟩, .slice none 0 0, .string ⟨#[]⟩, .slice none 0 0] 26)
          have bs26 := below_alloc (Below.refl w0.heap.size w0) (.cells #[.int .i64 0, .int .i64 0, .string ⟨#[]⟩, .slice none 0 0, .string ⟨#[]⟩, .slice none 0 0] 26)
          generalize w0.alloc (.cells #[.int .i64 0, .int .i64 0, .string ⟨#[]⟩, .slice none 0 0, .string ⟨#[]⟩, .slice none 0 0] 26) = wn26 at hx26 bs26 ⊢
          have bb26 := below_step b0 bs26
          refine hK.out _ _ (HS5.out _ bb26) (fun _ => ?_)
          clear hK K
          (try simp only [Act.put, List.setIfInBounds_toArray, List.set_cons_zero, List.set_cons_succ])
          refine wpAnyH_ready (rs := [15]) (by kernel_rfl) (by simp) ?_
          refine (AllReadyH.cons (i := 15) (o := ?o15y39) ?ho15y39 (fun K hK => ?_) AllReadyH.nil)
          case ho15y39 => (simp only [List.getElem?_toArray, List.getElem?_cons_succ, List.getElem?_cons_zero]; try rfl)
          · go_simp
            go_at_call 18
            refine (arbourkeep_Head.calls x.f3 9 (headL x.f3) _ HHD.out.1).mono ?_
            rintro e wn39 ⟨rfl, hd39⟩
            have bs39 := Drawn0.below hd39
            have bb39 := below_step bb26 bs39
            have hx39 := (bs39.block _ (blk_lt hx26)).trans hx26
            clear hd39
            refine hK.out _ _ (HS5.out _ bb39) (fun _ => ?_)
            clear hK K
            (try simp only [Act.put, List.setIfInBounds_toArray, List.set_cons_zero, List.set_cons_succ])
            refine wpAnyH_ready (rs := [21]) (by kernel_rfl) (by simp) ?_
            refine (AllReadyH.cons (i := 21) (o := ?o21y40) ?ho21y40 (fun K hK => ?_) AllReadyH.nil)
            case ho21y40 => (simp only [List.getElem?_toArray, List.getElem?_cons_succ, List.getElem?_cons_zero]; try rfl)
            · go_simp
              go_at_call 18
              refine (arbourkeep_Head.calls x.f4 9 (headL x.f4) _ HHD.out.2.1).mono ?_
              rintro e wn40 ⟨rfl, hd40⟩
              have bs40 := Drawn0.below hd40
              have bb40 := below_step bb39 bs40
              have hx40 := (bs40.block _ (blk_lt hx39)).trans hx39
              clear hd40
              refine hK.out _ _ (HS5.out _ bb40) (fun _ => ?_)
              clear hK K
              (try simp only [Act.put, List.setIfInBounds_toArray, List.set_cons_zero, List.set_cons_succ])
              refine wpAnyH_ready (rs := [27]) (by kernel_rfl) (by simp) ?_
              refine (AllReadyH.cons (i := 27) (o := ?o27y41) ?ho27y41 (fun K hK => ?_) AllReadyH.nil)
              case ho27y41 => (simp only [List.getElem?_toArray, List.getElem?_cons_succ, List.getElem?_cons_zero]; try rfl)
              · go_simp
                go_at_call 22
                refine (arbourkeep_Short.calls 40 Ax cx x.f5 (shortL x.f5) _ (Kd.C_below HGX.out bb40) HLX.out HHD.out.2.2).mono ?_
                rintro e wn41 ⟨vs, rfl, hrs, bs41⟩
                obtain ⟨AS, cS, rfl⟩ := Kd.R_slice hrs
                have bb41 := below_step bb40 bs41
                have hx41 := (bs41.block _ (blk_lt hx40)).trans hx40
                have hT := hide (TF_of_R (ok := fun k => w.heap.size + 2 ≤ k ∧ k ≠ w0.heap.size) (rawN x) (A3 := AS) (c3 := cS) hrs (Kd.R_nil k26 26 _ _ (fun _ => True)) (fun k hk hl => ⟨Nat.le_trans HW2.out (Nat.le_trans bb40.size hk), fun e => absurd (e ▸ hk) (Nat.not_le_of_lt (blk_lt hx40))⟩))
                clear hrs
                refine hK.out _ _ (HS5.out _ bb41) (fun _ => ?_)
                clear hK K
                (try simp only [Act.put, List.setIfInBounds_toArray, List.set_cons_zero, List.set_cons_succ])
                refine wpAnyH_take (i := 28) (oi := ?o28x42) (v := ?v28x42) ?ho28x42 (by kernel_rfl) (by kernel_rfl) (by kernel_rfl) ?hQ28x42 (Or.inl ⟨?hw28x42, ?hy28x42⟩) (by assumption) ?_
                case ho28x42 => (simp only [List.getElem?_toArray, List.getElem?_cons_succ, List.getElem?_cons_zero]; try rfl)
                case hQ28x42 => exact fun _ _ _ h => h
                case hw28x42 => rfl
                case hy28x42 => (intro w hSw; (try dsimp only at hSw); go_simp; (first | done | (with_reducible rfl)))
                (try simp only [Act.put, List.setIfInBounds_toArray, List.set_cons_zero, List.set_cons_succ])
                have fz0 := blk_frozen hx41 0
                have cz0 := cell_of_row _ _ 0 _ _ _ hx41
                have fz1 := blk_frozen hx41 1
                have cz1 := cell_of_row _ _ 1 _ _ _ hx41
                have fz2 := blk_frozen hx41 2
                have cz2 := cell_of_row _ _ 2 _ _ _ hx41
                have fz3 := blk_frozen hx41 3
                have cz3 := cell_of_row _ _ 3 _ _ _ hx41
                have fz4 := blk_frozen hx41 4
                have cz4 := cell_of_row _ _ 4 _ _ _ hx41
                have fz5 := blk_frozen hx41 5
                have cz5 := cell_of_row _ _ 5 _ _ _ hx41
                refine wpAnyH_ready (rs := [30]) (by kernel_rfl) (by simp) ?_
                refine (AllReadyH.cons (i := 30) (o := ?o30y43) ?ho30y43 (fun K hK => ?_) AllReadyH.nil)
                case ho30y43 => (simp only [List.getElem?_toArray, List.getElem?_cons_succ, List.getElem?_cons_zero]; try rfl)
                · go_simp
                  have hgX : wr.heap.size ≤ w0.heap.size := b0.size
                  have hfin := blk_set (blk_set (blk_set (blk_set (blk_set (blk_set hx41 0 (.int .i64 x.f0)) 1 (.int .i64 x.f1)) 2 (.string (headL x.f3))) 3 (.slice AS (shortL x.f5).length cS)) 4 (.string (headL x.f4))) 5 (.slice none 0 0)
                  have bF := ((((((bb41.setCell (p := ⟨w0.heap.size, 0, none⟩) (hgX) (.int .i64 x.f0)).setCell (p := ⟨w0.heap.size, 1, none⟩) (hgX) (.int .i64 x.f1)).setCell (p := ⟨w0.heap.size, 2, none⟩) (hgX) (.string (headL x.f3))).setCell (p := ⟨w0.heap.size, 3, none⟩) (hgX) (.slice AS (shortL x.f5).length cS)).setCell (p := ⟨w0.heap.size, 4, none⟩) (hgX) (.string (headL x.f4))).setCell (p := ⟨w0.heap.size, 5, none⟩) (hgX) (.slice none 0 0))
                  have hTF := hide (hT.out.step (fun k hk _ => set6_far (g := w0.heap.size) (a0 := 0) (a1 := 1) (a2 := 2) (a3 := 3) (a4 := 4) (a5 := 5) (v0 := (.int .i64 x.f0)) (v1 := (.int .i64 x.f1)) (v2 := (.string (headL x.f3))) (v3 := (.slice AS (shortL x.f5).length cS)) (v4 := (.string (headL x.f4))) (v5 := (.slice none 0 0)) k hk.2))
                  refine hK.out _ _ (HS5.out _ bF) (fun _ => ?_)
                  clear hK K
                  (try simp only [Act.put, List.setIfInBounds_toArray, List.set_cons_zero, List.set_cons_succ])
                  refine wpAnyH_done (by kernel_rfl) ?_ _
                  go_wp2_with fail
                  go_meet
                  exact ⟨_, _, _, none, 0, rfl, hfin, hTF.out, bF, hgX⟩
      case rest =>
        obtain ⟨X, R3, r3, R5, r5, rfl, hX, hTN, hbn, hXl⟩ := hcut
        go_upto_if 51 with fail
        go_cut [] from 51 to 57 (fun wx => NRel w wr (nodeL right x) (.pointer (some ⟨X, 0, none⟩)) wx)
        case first =>
          cases right with
          | false =>
            go_wp2_with fail
            go_meet
            exact ⟨X, R3, r3, R5, r5, rfl, hX, hTN, hbn, hXl⟩
          | true =>
            obtain ⟨z, hz⟩ : ∃ z, madeL x (rawN x) = z := ⟨_, rfl⟩
            have hmd := (made_some x).1
            rw [hz] at hmd
            have HMD := hide hmd
            have HZ := hide hz
            clear hmd hz
            obtain ⟨_, _, _, _, er, l3, f3, l5, f5⟩ := hTN.open_
            injection er with er
            injection er with er
            simp only [List.cons.injEq, Value.slice.injEq] at er
            obtain ⟨_, _, _, ⟨rfl, _, rfl⟩, _, ⟨rfl, _, rfl⟩, _⟩ := er
            have g3 := Kd.F_now f3
            have g5 := Kd.F_now f5
            clear f3 f5
            go_upto_region 8 with fail
            have bd := Below.drew (Below.refl wc.heap.size wc)
            have hX0 := (bd.block _ (blk_lt hX)).trans hX
            have b0 := below_step hbn bd
            refine wp_region_held_drew (S := fun W => True) (by kernel_rfl) trivial (fun _ => ?_)
            have hTT : True := trivial
            generalize wc.drew = w0 at b0 bd hX0 ⊢
            have e0_ := cellW HE.out.1 b0
            have e1_ := cellW HE.out.2.1 b0
            have e2_ := cellW HE.out.2.2.1 b0
            have e3_ := cellW HE.out.2.2.2.1 b0
            have e4_ := cellW HE.out.2.2.2.2.1 b0
            have e5_ := cellW HE.out.2.2.2.2.2 b0
            have x0_ := cell_of_row _ _ 0 _ _ _ hX0
            have x1_ := cell_of_row _ _ 1 _ _ _ hX0
            have x2_ := cell_of_row _ _ 2 _ _ _ hX0
            have x3_ := cell_of_row _ _ 3 _ _ _ hX0
            have x4_ := cell_of_row _ _ 4 _ _ _ hX0
            have x5_ := cell_of_row _ _ 5 _ _ _ hX0
            refine wpAnyH_take (i := 0) (oi := ?o0x44) (v := ?v0x44) ?ho0x44 (by kernel_rfl) (by kernel_rfl) (by kernel_rfl) ?hQ0x44 (Or.inl ⟨?hw0x44, ?hy0x44⟩) (by assumption) ?_
            case ho0x44 => (simp only [List.getElem?_toArray, List.getElem?_cons_succ, List.getElem?_cons_zero]; try rfl)
            case hQ0x44 => exact fun _ _ _ h => h
            case hw0x44 => rfl
            case hy0x44 => (intro w hSw; (try dsimp only at hSw); go_simp; (first | done | (with_reducible rfl)))
            (try simp only [Act.put, List.setIfInBounds_toArray, List.set_cons_zero, List.set_cons_succ])
            refine wpAnyH_take (i := 1) (oi := ?o1x45) (v := ?v1x45) ?ho1x45 (by kernel_rfl) (by kernel_rfl) (by kernel_rfl) ?hQ1x45 (Or.inl ⟨?hw1x45, ?hy1x45⟩) (by assumption) ?_
            case ho1x45 => (simp only [List.getElem?_toArray, List.getElem?_cons_succ, List.getElem?_cons_zero]; try rfl)
            case hQ1x45 => exact fun _ _ _ h => h
            case hw1x45 => rfl
            case hy1x45 => (intro w hSw; (try dsimp only at hSw); go_simp; (first | done | (with_reducible rfl)))
            (try simp only [Act.put, List.setIfInBounds_toArray, List.set_cons_zero, List.set_cons_succ])
            refine wpAnyH_take (i := 2) (oi := ?o2x46) (v := ?v2x46) ?ho2x46 (by kernel_rfl) (by kernel_rfl) (by kernel_rfl) ?hQ2x46 (Or.inl ⟨?hw2x46, ?hy2x46⟩) (by assumption) ?_
            case ho2x46 => (simp only [List.getElem?_toArray, List.getElem?_cons_succ, List.getElem?_cons_zero]; try rfl)
            case hQ2x46 => exact fun _ _ _ h => h
            case hw2x46 => rfl
            case hy2x46 => (intro w hSw; (try dsimp only at hSw); go_simp; (first | done | (with_reducible rfl)))
            (try simp only [Act.put, List.setIfInBounds_toArray, List.set_cons_zero, List.set_cons_succ])
            refine wpAnyH_ready (rs := [3, 4]) (by kernel_rfl) (by simp) ?_
            refine (AllReadyH.cons (i := 3) (o := ?o3y47) ?ho3y47 (fun K hK => ?_) (AllReadyH.cons (i := 4) (o := ?o4y47) ?ho4y47 (fun K hK => ?_) AllReadyH.nil))
            case ho3y47 => (simp only [List.getElem?_toArray, List.getElem?_cons_succ, List.getElem?_cons_zero]; try rfl)
            case ho4y47 => (simp only [List.getElem?_toArray, List.getElem?_cons_succ, List.getElem?_cons_zero]; try rfl)
            · go_simp
              refine hK.out _ _ trivial (fun _ => ?_)
              clear hK K
              (try simp only [Act.put, List.setIfInBounds_toArray, List.set_cons_zero, List.set_cons_succ])
              refine wpAnyH_ready (rs := [4]) (by kernel_rfl) (by simp) ?_
              refine (AllReadyH.cons (i := 4) (o := ?o4y48) ?ho4y48 (fun K hK => ?_) AllReadyH.nil)
              case ho4y48 => (simp only [List.getElem?_toArray, List.getElem?_cons_succ, List.getElem?_cons_zero]; try rfl)
              · go_simp
                refine hK.out _ _ trivial (fun _ => ?_)
                clear hK K
                (try simp only [Act.put, List.setIfInBounds_toArray, List.set_cons_zero, List.set_cons_succ])
                refine wpAnyH_ready (rs := [5]) (by kernel_rfl) (by simp) ?_
                refine (AllReadyH.cons (i := 5) (o := ?o5y49) ?ho5y49 (fun K hK => ?_) AllReadyH.nil)
                case ho5y49 => (simp only [List.getElem?_toArray, List.getElem?_cons_succ, List.getElem?_cons_zero]; try rfl)
                · go_simp
                  go_at_call 23
                  refine (arbourlaw14_made.calls x.f0 x.f1 x.f2 x.f3 x.f4 Ax cx x.f5 (rawN x).f0 (rawN x).f1 (rawN x).f2 R3 r3 (rawN x).f3 (rawN x).f4 R5 r5 (rawN x).f5 z.f0 z.f1 z.f2 z.f3 z.f4 z.f5 _ (Kd.C_below HGX.out b0) HLX.out (Kd.C_below g3 bd) l3 (Kd.C_below g5 bd) l5 HMD.out).mono ?_
                  rintro e wm ⟨v3, v5, rfl, h3, h5, bs⟩
                  obtain ⟨Z3, z3, rfl⟩ := Kd.R_slice h3
                  obtain ⟨Z5, z5, rfl⟩ := Kd.R_slice h5
                  have bm := below_step b0 bs
                  have hXm := (bs.block _ (blk_lt hX0)).trans hX0
                  have hT := hide (TF_of_R (ok := fun k => w.heap.size + 2 ≤ k ∧ k ≠ X) z h3 h5 (fun k hk hl => ⟨Nat.le_trans HW2.out (Nat.le_trans b0.size hk), fun e => absurd (e ▸ hk) (Nat.not_le_of_lt (blk_lt hX0))⟩))
                  clear h3 h5
                  have fz0 := blk_frozen hXm 0
                  have cz0 := cell_of_row _ _ 0 _ _ _ hXm
                  have fz1 := blk_frozen hXm 1
                  have cz1 := cell_of_row _ _ 1 _ _ _ hXm
                  have fz2 := blk_frozen hXm 2
                  have cz2 := cell_of_row _ _ 2 _ _ _ hXm
                  have fz3 := blk_frozen hXm 3
                  have cz3 := cell_of_row _ _ 3 _ _ _ hXm
                  have fz4 := blk_frozen hXm 4
                  have cz4 := cell_of_row _ _ 4 _ _ _ hXm
                  have fz5 := blk_frozen hXm 5
                  have cz5 := cell_of_row _ _ 5 _ _ _ hXm
                  refine hK.out _ _ trivial (fun _ => ?_)
                  clear hK K
                  (try simp only [Act.put, List.setIfInBounds_toArray, List.set_cons_zero, List.set_cons_succ])
                  refine wpAnyH_ready (rs := [6]) (by kernel_rfl) (by simp) ?_
                  refine (AllReadyH.cons (i := 6) (o := ?o6y50) ?ho6y50 (fun K hK => ?_) AllReadyH.nil)
                  case ho6y50 => (simp only [List.getElem?_toArray, List.getElem?_cons_succ, List.getElem?_cons_zero]; try rfl)
                  · go_simp
                    have hfin := blk_set (blk_set (blk_set (blk_set (blk_set (blk_set hXm 0 (.int .i64 z.f0)) 1 (.int .i64 z.f1)) 2 (.string z.f2)) 3 (.slice Z3 z.f3.length z3)) 4 (.string z.f4)) 5 (.slice Z5 z.f5.length z5)
                    have bF := ((((((bm.setCell (p := ⟨X, 0, none⟩) hXl (.int .i64 z.f0)).setCell (p := ⟨X, 1, none⟩) hXl (.int .i64 z.f1)).setCell (p := ⟨X, 2, none⟩) hXl (.string z.f2)).setCell (p := ⟨X, 3, none⟩) hXl (.slice Z3 z.f3.length z3)).setCell (p := ⟨X, 4, none⟩) hXl (.string z.f4)).setCell (p := ⟨X, 5, none⟩) hXl (.slice Z5 z.f5.length z5))
                    have hTF := hide (hT.out.step (fun k hk _ => set6_far (g := X) (a0 := 0) (a1 := 1) (a2 := 2) (a3 := 3) (a4 := 4) (a5 := 5) (v0 := (.int .i64 z.f0)) (v1 := (.int .i64 z.f1)) (v2 := (.string z.f2)) (v3 := (.slice Z3 z.f3.length z3)) (v4 := (.string z.f4)) (v5 := (.slice Z5 z.f5.length z5)) k hk.2))
                    refine hK.out _ _ trivial (fun _ => ?_)
                    clear hK K
                    (try simp only [Act.put, List.setIfInBounds_toArray, List.set_cons_zero, List.set_cons_succ])
                    refine wpAnyH_done (by kernel_rfl) ?_ _
                    go_wp2_with fail
                    go_meet
                    rw [show nodeL true x = z from HZ.out]
                    exact ⟨X, Z3, z3, Z5, z5, rfl, hfin, hTF.out, bF, hXl⟩
            · go_simp
              refine hK.out _ _ trivial (fun _ => ?_)
              clear hK K
              (try simp only [Act.put, List.setIfInBounds_toArray, List.set_cons_zero, List.set_cons_succ])
              refine wpAnyH_ready (rs := [3]) (by kernel_rfl) (by simp) ?_
              refine (AllReadyH.cons (i := 3) (o := ?o3y51) ?ho3y51 (fun K hK => ?_) AllReadyH.nil)
              case ho3y51 => (simp only [List.getElem?_toArray, List.getElem?_cons_succ, List.getElem?_cons_zero]; try rfl)
              · go_simp
                refine hK.out _ _ trivial (fun _ => ?_)
                clear hK K
                (try simp only [Act.put, List.setIfInBounds_toArray, List.set_cons_zero, List.set_cons_succ])
                refine wpAnyH_ready (rs := [5]) (by kernel_rfl) (by simp) ?_
                refine (AllReadyH.cons (i := 5) (o := ?o5y52) ?ho5y52 (fun K hK => ?_) AllReadyH.nil)
                case ho5y52 => (simp only [List.getElem?_toArray, List.getElem?_cons_succ, List.getElem?_cons_zero]; try rfl)
                · go_simp
                  go_at_call 23
                  refine (arbourlaw14_made.calls x.f0 x.f1 x.f2 x.f3 x.f4 Ax cx x.f5 (rawN x).f0 (rawN x).f1 (rawN x).f2 R3 r3 (rawN x).f3 (rawN x).f4 R5 r5 (rawN x).f5 z.f0 z.f1 z.f2 z.f3 z.f4 z.f5 _ (Kd.C_below HGX.out b0) HLX.out (Kd.C_below g3 bd) l3 (Kd.C_below g5 bd) l5 HMD.out).mono ?_
                  rintro e wm ⟨v3, v5, rfl, h3, h5, bs⟩
                  obtain ⟨Z3, z3, rfl⟩ := Kd.R_slice h3
                  obtain ⟨Z5, z5, rfl⟩ := Kd.R_slice h5
                  have bm := below_step b0 bs
                  have hXm := (bs.block _ (blk_lt hX0)).trans hX0
                  have hT := hide (TF_of_R (ok := fun k => w.heap.size + 2 ≤ k ∧ k ≠ X) z h3 h5 (fun k hk hl => ⟨Nat.le_trans HW2.out (Nat.le_trans b0.size hk), fun e => absurd (e ▸ hk) (Nat.not_le_of_lt (blk_lt hX0))⟩))
                  clear h3 h5
                  have fz0 := blk_frozen hXm 0
                  have cz0 := cell_of_row _ _ 0 _ _ _ hXm
                  have fz1 := blk_frozen hXm 1
                  have cz1 := cell_of_row _ _ 1 _ _ _ hXm
                  have fz2 := blk_frozen hXm 2
                  have cz2 := cell_of_row _ _ 2 _ _ _ hXm
                  have fz3 := blk_frozen hXm 3
                  have cz3 := cell_of_row _ _ 3 _ _ _ hXm
                  have fz4 := blk_frozen hXm 4
                  have cz4 := cell_of_row _ _ 4 _ _ _ hXm
                  have fz5 := blk_frozen hXm 5
                  have cz5 := cell_of_row _ _ 5 _ _ _ hXm
                  refine hK.out _ _ trivial (fun _ => ?_)
                  clear hK K
                  (try simp only [Act.put, List.setIfInBounds_toArray, List.set_cons_zero, List.set_cons_succ])
                  refine wpAnyH_ready (rs := [6]) (by kernel_rfl) (by simp) ?_
                  refine (AllReadyH.cons (i := 6) (o := ?o6y53) ?ho6y53 (fun K hK => ?_) AllReadyH.nil)
                  case ho6y53 => (simp only [List.getElem?_toArray, List.getElem?_cons_succ, List.getElem?_cons_zero]; try rfl)
                  · go_simp
                    have hfin := blk_set (blk_set (blk_set (blk_set (blk_set (blk_set hXm 0 (.int .i64 z.f0)) 1 (.int .i64 z.f1)) 2 (.string z.f2)) 3 (.slice Z3 z.f3.length z3)) 4 (.string z.f4)) 5 (.slice Z5 z.f5.length z5)
                    have bF := ((((((bm.setCell (p := ⟨X, 0, none⟩) hXl (.int .i64 z.f0)).setCell (p := ⟨X, 1, none⟩) hXl (.int .i64 z.f1)).setCell (p := ⟨X, 2, none⟩) hXl (.string z.f2)).setCell (p := ⟨X, 3, none⟩) hXl (.slice Z3 z.f3.length z3)).setCell (p := ⟨X, 4, none⟩) hXl (.string z.f4)).setCell (p := ⟨X, 5, none⟩) hXl (.slice Z5 z.f5.length z5))
                    have hTF := hide (hT.out.step (fun k hk _ => set6_far (g := X) (a0 := 0) (a1 := 1) (a2 := 2) (a3 := 3) (a4 := 4) (a5 := 5) (v0 := (.int .i64 z.f0)) (v1 := (.int .i64 z.f1)) (v2 := (.string z.f2)) (v3 := (.slice Z3 z.f3.length z3)) (v4 := (.string z.f4)) (v5 := (.slice Z5 z.f5.length z5)) k hk.2))
                    refine hK.out _ _ trivial (fun _ => ?_)
                    clear hK K
                    (try simp only [Act.put, List.setIfInBounds_toArray, List.set_cons_zero, List.set_cons_succ])
                    refine wpAnyH_done (by kernel_rfl) ?_ _
                    go_wp2_with fail
                    go_meet
                    rw [show nodeL true x = z from HZ.out]
                    exact ⟨X, Z3, z3, Z5, z5, rfl, hfin, hTF.out, bF, hXl⟩
        case rest =>
          clear hX hTN hbn hXl
          obtain ⟨X', N3, n3, N5, n5, h8, hX, hTN, hbn, hXl⟩ := hcut
          cases h8
          obtain ⟨y, hy⟩ : ∃ y, nodeL right x = y := ⟨_, rfl⟩
          rw [hy] at hX hTN HHS
          clear hy
          obtain ⟨y0, y1, y2, y3, y4, y5⟩ := y
          dsimp only at hX hTN
          have e2 := cellW HE.out.2.2.1 hbn
          have hQ3 := (hbn.block _ (blk_lt HX3.out)).trans HX3.out
          have hQ2 := (hbn.block _ (blk_lt HX2.out)).trans HX2.out
          have hcut := HCUT.out
          go_upto_region 10 with (go_at_call 17; refine (arbourbook_Within.calls _ _ _ _ _ HFU.out).mono ?_; rintro e w' ⟨rfl, ⟨nq, rfl⟩⟩)
          have bq := pw_below_drewN (Below.refl wc.heap.size wc) nq
          have qX3 := (bq.block _ (blk_lt hQ3)).trans hQ3
          have qX2 := (bq.block _ (blk_lt hQ2)).trans hQ2
          have qX := (bq.block _ (blk_lt hX)).trans hX
          have bQ := below_step hbn bq
          have HQX2 := hide qX2
          have HQX3 := hide qX3
          have HQT := hide (HTF.out.below bQ)
          have HQN := hide (TF.mono (hTN.below bq) (ok' := fun k => w.heap.size + 2 ≤ k) (fun k hk => hk.1))
          have HQC := hide (Kd.C_below HCT.out bQ)
          have HQB := hide (below_step HB.out bQ)
          have HLQ := hide (Nat.succ_le_of_lt (blk_lt qX3))
          obtain ⟨wq, hwq⟩ : ∃ wq, wc.drewN nq = wq := ⟨_, rfl⟩
          rw [hwq] at qX3 HQX2 HQX3 HQT HQN HQC HQB HLQ qX ⊢
          clear hwq bq qX2 e2 bQ hQ3 hQ2 hX hTN hbn hXl
          have c0 := cell_of_row _ _ 0 _ _ _ qX3
          have c1 := cell_of_row _ _ 1 _ _ _ qX3
          have c2 := cell_of_row _ _ 2 _ _ _ qX3
          have c3_ := cell_of_row _ _ 3 _ _ _ qX3
          have c4 := cell_of_row _ _ 4 _ _ _ qX3
          have c5_ := cell_of_row _ _ 5 _ _ _ qX3
          have d0 := cell_of_row _ _ 0 _ _ _ qX
          have d1 := cell_of_row _ _ 1 _ _ _ qX
          have d2 := cell_of_row _ _ 2 _ _ _ qX
          have d3_ := cell_of_row _ _ 3 _ _ _ qX
          have d4 := cell_of_row _ _ 4 _ _ _ qX
          have d5_ := cell_of_row _ _ 5 _ _ _ qX
          clear qX3 qX
          obtain ⟨⟨⟨z0, z1, z2, z3, z4, z5⟩, yw⟩, hy⟩ : ∃ y, growN right l (n + 1) = y := ⟨_, rfl⟩
          rw [hy] at HHS
          have HY := hide hy
          clear hy
          have HU := hide (show Calls Try.prog 24 #[.agg #[.int .i64 t0, .int .i64 t1, .string t2, .slice A3 t3.length c3, .string t4, .slice A5 t5.length c5], .slice Aw m' cw, .agg #[.int .i64 y0, .int .i64 y1, .string y2, .slice N3 y3.length n3, .string y4, .slice N5 y5.length n5]] wq (fun e w' => ∃ v vw, e = .returned (.tuple #[v, vw]) ∧ TF w' (fun k => w.heap.size + 2 ≤ k ∨ wq.heap.size ≤ k) v ⟨z0, z1, z2, z3, z4, z5⟩ ∧ WF w' (fun k => w.heap.size + 2 ≤ k ∨ wq.heap.size ≤ k) vw yw ∧ Below wq.heap.size wq w') from by
            have h := under_at ⟨y0, y1, y2, y3, y4, y5⟩ m' way' ⟨t0, t1, t2, t3, t4, t5⟩ (.agg #[.int .i64 t0, .int .i64 t1, .string t2, .slice A3 t3.length c3, .string t4, .slice A5 t5.length c5]) (.agg #[.int .i64 y0, .int .i64 y1, .string y2, .slice N3 y3.length n3, .string y4, .slice N5 y5.length n5]) wq (fun k => w.heap.size + 2 ≤ k) Aw cw HM'.out HVT.out HQT.out HQN.out (by have h1 := HW.out; have h2 := hn2; omega) (by rw [HM'.out]; exact HTL.out) (by rw [List.length_map, HM'.out]; exact HQC.out)
            rw [HM'.out, ← HHS.out] at h
            exact h)
          go_wp2_with (go_at_call 24; (with_reducible refine HU.out.mono ?_); rintro e wu ⟨v2, vw, rfl, hT2, hW2, hB2⟩; obtain ⟨M3, m3, M5, m5, rfl, _, _, _, _⟩ := hT2.open_; have HTU := hide (hT2.mono (ok' := fun k => w.heap.size + 2 ≤ k) (fun k hk => hk.elim id (fun h => Nat.le_trans HLQ.out h))); have HWU := hide (hW2.mono (ok' := fun k => w.heap.size + 2 ≤ k) (fun k hk => hk.elim id (fun h => Nat.le_trans HLQ.out h))); have HBU := hide hB2; have hXu := (hB2.block _ (blk_lt HQX3.out)).trans HQX3.out; have u0_ := cell_of_row _ _ 0 _ _ _ hXu; have f0 := blk_frozen hXu 0; have u1_ := cell_of_row _ _ 1 _ _ _ hXu; have f1 := blk_frozen hXu 1; have u2_ := cell_of_row _ _ 2 _ _ _ hXu; have f2 := blk_frozen hXu 2; have u3_ := cell_of_row _ _ 3 _ _ _ hXu; have f3 := blk_frozen hXu 3; have u4_ := cell_of_row _ _ 4 _ _ _ hXu; have f4 := blk_frozen hXu 4; have u5_ := cell_of_row _ _ 5 _ _ _ hXu; have f5 := blk_frozen hXu 5; have HXU := hide hXu; clear hT2 hW2 hB2 hXu)
          have hbU := below_step HQB.out HBU.out
          have hX2u := (HBU.out.block _ (blk_lt HQX2.out)).trans HQX2.out
          exact ⟨GrowRel.mk' (n := n + 1) (y := ⟨z0, z1, z2, z3, z4, z5⟩) (by omega) (by omega) HY.out (blk_set (blk_set (blk_set (blk_set (blk_set (blk_set HXU.out 0 (.int .i64 z0)) 1 (.int .i64 z1)) 2 (.string z2)) 3 (.slice M3 z3.length m3)) 4 (.string z4)) 5 (.slice M5 z5.length m5)) (HTU.out.step (fun k hk _ => set6_far (g := w.heap.size + 1) (a0 := 0) (a1 := 1) (a2 := 2) (a3 := 3) (a4 := 4) (a5 := 5) (v0 := (.int .i64 z0)) (v1 := (.int .i64 z1)) (v2 := (.string z2)) (v3 := (.slice M3 z3.length m3)) (v4 := (.string z4)) (v5 := (.slice M5 z5.length m5)) k (by omega))) (HWU.out.step (fun k hk _ => set6_far (g := w.heap.size + 1) (a0 := 0) (a1 := 1) (a2 := 2) (a3 := 3) (a4 := 4) (a5 := 5) (v0 := (.int .i64 z0)) (v1 := (.int .i64 z1)) (v2 := (.string z2)) (v3 := (.slice M3 z3.length m3)) (v4 := (.string z4)) (v5 := (.slice M5 z5.length m5)) k (by omega))) ((set6_far (g := w.heap.size + 1) (a0 := 0) (a1 := 1) (a2 := 2) (a3 := 3) (a4 := 4) (a5 := 5) (v0 := (.int .i64 z0)) (v1 := (.int .i64 z1)) (v2 := (.string z2)) (v3 := (.slice M3 z3.length m3)) (v4 := (.string z4)) (v5 := (.slice M5 z5.length m5)) w.heap.size (by omega)).trans hX2u) ((((((hbU.setCell (p := ⟨w.heap.size + 1, 0, none⟩) (Nat.le_succ _) (.int .i64 z0)).setCell (p := ⟨w.heap.size + 1, 1, none⟩) (Nat.le_succ _) (.int .i64 z1)).setCell (p := ⟨w.heap.size + 1, 2, none⟩) (Nat.le_succ _) (.string z2)).setCell (p := ⟨w.heap.size + 1, 3, none⟩) (Nat.le_succ _) (.slice M3 z3.length m3)).setCell (p := ⟨w.heap.size + 1, 4, none⟩) (Nat.le_succ _) (.string z4)).setCell (p := ⟨w.heap.size + 1, 5, none⟩) (Nat.le_succ _) (.slice M5 z5.length m5)), by simp [intOf]; omega⟩
    · have hg := growL_N right l n hnl hn25 hlt
      obtain ⟨s, hs⟩ : ∃ s, growN right l n = s := ⟨_, rfl⟩
      rw [hs] at hg hTF hX3 G
      have HGR := hide hg
      clear hg hs hWy G
      obtain ⟨⟨t0, t1, t2, t3, t4, t5⟩, way⟩ := s
      dsimp only at hTF hX3 HGR
      have c0 := cell_of_row _ _ 0 _ _ _ hX3
      have c1 := cell_of_row _ _ 1 _ _ _ hX3
      have c2 := cell_of_row _ _ 2 _ _ _ hX3
      have c3_ := cell_of_row _ _ 3 _ _ _ hX3
      have c4 := cell_of_row _ _ 4 _ _ _ hX3
      have c5_ := cell_of_row _ _ 5 _ _ _ hX3
      have d0 := cell_of_row _ _ 0 _ _ _ HX2.out
      have d1 := cell_of_row _ _ 1 _ _ _ HX2.out
      have d2 := cell_of_row _ _ 2 _ _ _ HX2.out
      have d3 := cell_of_row _ _ 3 _ _ _ HX2.out
      have d4 := cell_of_row _ _ 4 _ _ _ HX2.out
      have d5 := cell_of_row _ _ 5 _ _ _ HX2.out
      have f0 := blk_frozen HX2.out 0
      have f1 := blk_frozen HX2.out 1
      have f2 := blk_frozen HX2.out 2
      have f3 := blk_frozen HX2.out 3
      have f4 := blk_frozen HX2.out 4
      have f5 := blk_frozen HX2.out 5
      have HX3 := hide hX3
      clear hX3
      by_cases h1 : n < l.length
      · have h2 : n = 30 := by omega
        have h3 : (n : Int) < (l.length : Int) := by omega
        have h4 : ¬ (n : Int) < 30 := by omega
        clear hlt hn25 hnl h1 h2
        go_wp2_with fail
        have hfin := (blk_set (blk_set (blk_set (blk_set (blk_set (blk_set HX2.out 0 (.int .i64 t0)) 1 (.int .i64 t1)) 2 (.string t2)) 3 (.slice A3 t3.length c3)) 4 (.string t4)) 5 (.slice A5 t5.length c5))
        have hbF := ((((((HB.out.setCell (p := ⟨w.heap.size, 0, none⟩) (Nat.le_refl _) (.int .i64 t0)).setCell (p := ⟨w.heap.size, 1, none⟩) (Nat.le_refl _) (.int .i64 t1)).setCell (p := ⟨w.heap.size, 2, none⟩) (Nat.le_refl _) (.string t2)).setCell (p := ⟨w.heap.size, 3, none⟩) (Nat.le_refl _) (.slice A3 t3.length c3)).setCell (p := ⟨w.heap.size, 4, none⟩) (Nat.le_refl _) (.string t4)).setCell (p := ⟨w.heap.size, 5, none⟩) (Nat.le_refl _) (.slice A5 t5.length c5))
        exact ⟨rfl, _, res_tree hfin 4 _ rfl rfl, _, rfl, by rw [HGR.out]; exact (TF.step hTF (fun k hk _ => set6_far (g := w.heap.size) (a0 := 0) (a1 := 1) (a2 := 2) (a3 := 3) (a4 := 4) (a5 := 5) (v0 := (.int .i64 t0)) (v1 := (.int .i64 t1)) (v2 := (.string t2)) (v3 := (.slice A3 t3.length c3)) (v4 := (.string t4)) (v5 := (.slice A5 t5.length c5)) k (by omega))).mono (fun k hk => by omega), hbF⟩
      · have h3 : ¬ (n : Int) < (l.length : Int) := by omega
        clear hlt hn25 hnl h1
        go_wp2_with fail
        have hfin := (blk_set (blk_set (blk_set (blk_set (blk_set (blk_set HX2.out 0 (.int .i64 t0)) 1 (.int .i64 t1)) 2 (.string t2)) 3 (.slice A3 t3.length c3)) 4 (.string t4)) 5 (.slice A5 t5.length c5))
        have hbF := ((((((HB.out.setCell (p := ⟨w.heap.size, 0, none⟩) (Nat.le_refl _) (.int .i64 t0)).setCell (p := ⟨w.heap.size, 1, none⟩) (Nat.le_refl _) (.int .i64 t1)).setCell (p := ⟨w.heap.size, 2, none⟩) (Nat.le_refl _) (.string t2)).setCell (p := ⟨w.heap.size, 3, none⟩) (Nat.le_refl _) (.slice A3 t3.length c3)).setCell (p := ⟨w.heap.size, 4, none⟩) (Nat.le_refl _) (.string t4)).setCell (p := ⟨w.heap.size, 5, none⟩) (Nat.le_refl _) (.slice A5 t5.length c5))
        exact ⟨rfl, _, res_tree hfin 4 _ rfl rfl, _, rfl, by rw [HGR.out]; exact (TF.step hTF (fun k hk _ => set6_far (g := w.heap.size) (a0 := 0) (a1 := 1) (a2 := 2) (a3 := 3) (a4 := 4) (a5 := 5) (v0 := (.int .i64 t0)) (v1 := (.int .i64 t1)) (v2 := (.string t2)) (v3 := (.slice A3 t3.length c3)) (v4 := (.string t4)) (v5 := (.slice A5 t5.length c5)) k (by omega))).mono (fun k hk => by omega), hbF⟩
end Go.Proofs.Ytaponaemgolmoaa.Tr
