/- ComparePaths: plain laws on the way to the first difference, rows of nodes as bare cells, the walk (the walk printed by mk_path.py). -/
import Derived.Test.YteglfgmgpbablaaDoorCmpEq
import Derived.Test.YteglfgmgpbablaaDoorCmpDeepW
namespace Go.Proofs.YteglfgmgpbablaaDoor.Cmp
open Go.RowKit Go.Proofs.YteglfgmgpbablaaDoor.PCompareTells Go.Proofs.YteglfgmgpbablaaDoorW.PrintWords Go.Proofs.YteglfgmgpbablaaDoorW.PrintLast
/-- How rows of kids differ first: so many are the same. -/
theorem difK_spec : ∀ (l m : List S26) (i : Int) (p : List Int), difK l m i = some p → ∃ (k : Nat) (r : List Int), p = (i + (k : Int)) :: r ∧ k ≤ l.length ∧ k ≤ m.length ∧ (∀ j, j < k → eqT (l.getD j z26) (m.getD j z26) = true) ∧ ((k < l.length ∧ k < m.length ∧ dif (l.getD k z26) (m.getD k z26) = some r) ∨ (r = [] ∧ ((k = l.length ∧ k < m.length) ∨ (k < l.length ∧ k = m.length))))
  | [], [], i, p, h => by rw [difK] at h; cases h
  | [], y :: m, i, p, h => by
    rw [difK] at h
    cases h
    exact ⟨0, [], by simp, Nat.le_refl _, Nat.zero_le _, fun j hj => by omega, .inr ⟨rfl, .inl ⟨rfl, by simp⟩⟩⟩
  | x :: l, [], i, p, h => by
    rw [difK] at h
    cases h
    exact ⟨0, [], by simp, Nat.zero_le _, Nat.le_refl _, fun j hj => by omega, .inr ⟨rfl, .inr ⟨by simp, rfl⟩⟩⟩
  | x :: l, y :: m, i, p, h => by
    rw [difK] at h
    cases e : dif x y with
    | some q =>
      rw [e] at h
      cases h
      exact ⟨0, q, by simp, Nat.zero_le _, Nat.zero_le _, fun j hj => by omega, .inl ⟨by simp, by simp, e⟩⟩
    | none =>
      rw [e] at h
      obtain ⟨k, r, hp, h1, h2, h3, h4⟩ := difK_spec l m (i + 1) p h
      refine ⟨k + 1, r, by rw [hp]; congr 1; omega, by simpa using h1, by simpa using h2, fun j hj => ?_, ?_⟩
      · cases j with
        | zero => show eqT x y = true; unfold eqT; rw [e]; rfl
        | succ j => exact h3 j (by omega)
      · rcases h4 with ⟨g1, g2, g3⟩ | ⟨g1, g2⟩
        · exact .inl ⟨by simpa using g1, by simpa using g2, g3⟩
        · refine .inr ⟨g1, ?_⟩
          rcases g2 with ⟨u, v⟩ | ⟨u, v⟩
          · exact .inl ⟨by simpa using u, by simpa using v⟩
          · exact .inr ⟨by simpa using u, by simpa using v⟩
theorem dif_spec (a b : S26) (p : List Int) (h : dif a b = some p) : (p = [] ∧ labL a b = false) ∨ (labL a b = true ∧ ∃ (k : Nat) (r : List Int), p = (k : Int) :: r ∧ k ≤ a.f5.length ∧ k ≤ b.f5.length ∧ (∀ j, j < k → eqT (a.f5.getD j z26) (b.f5.getD j z26) = true) ∧ ((k < a.f5.length ∧ k < b.f5.length ∧ dif (a.f5.getD k z26) (b.f5.getD k z26) = some r) ∨ (r = [] ∧ ((k = a.f5.length ∧ k < b.f5.length) ∨ (k < a.f5.length ∧ k = b.f5.length))))) := by
  rw [dif_eq] at h
  cases e : labL a b with
  | false =>
    rw [e] at h
    have h' : some [] = some p := h
    cases h'
    exact .inl ⟨rfl, rfl⟩
  | true =>
    rw [e, if_pos rfl] at h
    obtain ⟨k, r, hp, h1⟩ := difK_spec _ _ _ _ h
    exact .inr ⟨rfl, k, r, by rw [hp, Int.zero_add], h1⟩
theorem atL_nat (k : Nat) (r : List Int) (t : S26) : atL ((k : Int) :: r) t = if k < t.f5.length then atL r (t.f5.getD k z26) else none := by
  rw [atL, Int.toNat_natCast]
  by_cases h : k < t.f5.length
  · rw [if_pos h, if_pos ⟨by omega, by omega⟩]
  · rw [if_neg h, if_neg (fun h2 => h (by omega))]
/-- At the way's end the labels differ, or one node alone is there. -/
theorem path_end : ∀ (p : List Int) (a b : S26), dif a b = some p → (∃ x y, atL p a = some x ∧ atL p b = some y ∧ labL x y = false) ∨ ((atL p a).isSome = true ∧ atL p b = none) ∨ (atL p a = none ∧ (atL p b).isSome = true)
  | [], a, b, h => by
    rcases dif_spec a b [] h with ⟨_, h2⟩ | ⟨_, k, r, h3, _⟩
    · exact .inl ⟨a, b, rfl, rfl, h2⟩
    · cases h3
  | q :: r, a, b, h => by
    rcases dif_spec a b _ h with ⟨h1, _⟩ | ⟨_, k, r', h3, h4, h5, _, h6⟩
    · cases h1
    · cases h3
      rw [atL_nat, atL_nat]
      rcases h6 with ⟨g1, g2, g3⟩ | ⟨g1, g2⟩
      · rw [if_pos g1, if_pos g2]
        exact path_end r _ _ g3
      · subst g1
        rcases g2 with ⟨u, v⟩ | ⟨u, v⟩
        · rw [if_neg (by omega), if_pos v]
          exact .inr (.inr ⟨rfl, rfl⟩)
        · rw [if_pos u, if_neg (by omega)]
          exact .inr (.inl ⟨rfl, rfl⟩)
/-- On the way there all is the same. -/
theorem path_mid : ∀ (p : List Int) (a b : S26), dif a b = some p → ∀ n, n < p.length → ∃ x y, ∃ k : Nat, atL (p.take n) a = some x ∧ atL (p.take n) b = some y ∧ labL x y = true ∧ p.getD n 0 = (k : Int) ∧ ∀ i, i < k → i < x.f5.length ∧ i < y.f5.length ∧ eqT (x.f5.getD i z26) (y.f5.getD i z26) = true
  | [], a, b, h, n, hn => by simp at hn
  | q :: r, a, b, h, n, hn => by
    rcases dif_spec a b _ h with ⟨h1, _⟩ | ⟨hl, k, r', h3, h4, h5, h7, h6⟩
    · cases h1
    · cases h3
      cases n with
      | zero => exact ⟨a, b, k, rfl, rfl, hl, rfl, fun i hi => ⟨by omega, by omega, h7 i hi⟩⟩
      | succ n =>
        rcases h6 with ⟨g1, g2, g3⟩ | ⟨g1, g2⟩
        · obtain ⟨x, y, k', e1, e2, e3, e4, e5⟩ := path_mid r _ _ g3 n (by simpa using hn)
          refine ⟨x, y, k', ?_, ?_, e3, e4, e5⟩
          · rw [List.take_succ_cons, atL_nat, if_pos g1]; exact e1
          · rw [List.take_succ_cons, atL_nat, if_pos g2]; exact e2
        · subst g1
          simp at hn
theorem sameA_symm : ∀ l m : List S47, sameA l m = sameA m l
  | [], [] => rfl
  | [], _ :: _ => rfl
  | _ :: _, [] => rfl
  | a :: l, b :: m => by
    simp only [sameA]
    rw [sameA_symm l m, Bool.beq_comm (a := a.f0.toList), Bool.beq_comm (a := a.f1.toList)]
theorem labL_symm (a b : S26) : labL a b = labL b a := by
  unfold labL
  rw [sameA_symm a.f3 b.f3, Bool.beq_comm (a := a.f0), Bool.beq_comm (a := a.f1), Bool.beq_comm (a := a.f2.toList), Bool.beq_comm (a := a.f4.toList)]
mutual
theorem dif_symm : ∀ a b : S26, dif a b = dif b a
  | ⟨a0, a1, a2, a3, a4, a5⟩, b => by
    rw [dif_eq, dif_eq b, labL_symm b]
    show (if _ then difK a5 b.f5 0 else some []) = if _ then difK b.f5 a5 0 else some []
    rw [difK_symm a5 b.f5 0]
theorem difK_symm : ∀ (l m : List S26) (i : Int), difK l m i = difK m l i
  | [], [], i => rfl
  | [], _ :: _, i => by rw [difK, difK]
  | _ :: _, [], i => by rw [difK, difK]
  | x :: l, y :: m, i => by
    rw [difK, difK, dif_symm x y, difK_symm l m (i + 1)]
end
end Go.Proofs.YteglfgmgpbablaaDoor.Cmp
namespace Go.Proofs.YteglfgmgpbablaaDoor.Cmp
open Go.RowKit Go.Proofs.YteglfgmgpbablaaDoor.PCompareTells Go.Proofs.YteglfgmgpbablaaDoorW.PrintWords Go.Proofs.YteglfgmgpbablaaDoorW.PrintLast
inductive KN (w : World) : List S45 → List Raw → Prop
  | nil : KN w [] []
  | cons {x : S45} {r : Raw} {xs : List S45} {rs : List Raw} (h : k45.K w x (cl r)) (t : KN w xs rs) : KN w (x :: xs) (r :: rs)
theorem KN.len {w : World} {xs : List S45} {rs : List Raw} (h : KN w xs rs) : xs.length = rs.length := by
  induction h with
  | nil => rfl
  | cons _ _ ih => simp [ih]
theorem KN.step {w w' : World} {xs : List S45} {rs : List Raw} (h : KN w xs rs) (hb : Below w.heap.size w w') : KN w' xs rs := by
  induction h with
  | nil => exact .nil
  | cons h _ ih => exact .cons (k45.K_below hb h) ih
theorem KN.app {w : World} {xs ys : List S45} {rs ss : List Raw} (h : KN w xs rs) (h2 : KN w ys ss) : KN w (xs ++ ys) (rs ++ ss) := by
  induction h with
  | nil => exact h2
  | cons h _ ih => exact .cons h ih
theorem KN.take {w : World} {xs : List S45} {rs : List Raw} (h : KN w xs rs) (n : Nat) : KN w (xs.take n) (rs.take n) := by
  induction h generalizing n with
  | nil => simp; exact .nil
  | cons h _ ih =>
    cases n with
    | zero => exact .nil
    | succ n => exact .cons h (ih n)
theorem KN.at {w : World} {xs : List S45} {rs : List Raw} (h : KN w xs rs) : ∀ (i : Nat) (x : S45), xs[i]? = some x → ∃ r, rs[i]? = some r ∧ k45.K w x (cl r) := by
  induction h with
  | nil => intro i x hx; simp at hx
  | cons h t ih =>
    intro i x hx
    cases i with
    | zero => cases hx; exact ⟨_, rfl, h⟩
    | succ i => exact ih i x hx
theorem raw_of45 {w : World} {x : S45} {cs : List Value} (h : k45.K w x cs) : ∃ r : Raw, cl r = cs := by
  obtain ⟨A5, c5, rfl, _⟩ := k45_open h
  exact ⟨⟨⟨.int .i64 x.f0, rfl⟩, ⟨.int .i64 x.f1, rfl⟩, ⟨.int .i64 x.f2, rfl⟩, ⟨.bool x.f3, rfl⟩, ⟨.string x.f4, rfl⟩, ⟨.slice A5 x.f5.length c5, rfl⟩⟩, rfl⟩
theorem C_raw45 {w : World} {A : Option Addr} {xs : List S45} (h : k45.C w A xs.length xs) : ∃ rs, kRaw.C w A rs.length rs ∧ KN w xs rs := by
  have hp : ∀ j : Nat, ∃ r : Raw, ∀ x, xs[j]? = some x → k45.K w x (cl r) ∧ ∀ ad, A = some ad → ∀ i u, (cl r)[i]? = some u → w.cell? (ad.add (j * 6 + i)) = some u := by
    intro j
    cases hx : xs[j]? with
    | none => exact ⟨⟨⟨.int .i64 0, rfl⟩, ⟨.int .i64 0, rfl⟩, ⟨.int .i64 0, rfl⟩, ⟨.int .i64 0, rfl⟩, ⟨.int .i64 0, rfl⟩, ⟨.int .i64 0, rfl⟩⟩, fun x h => by cases h⟩
    | some x =>
      have hj : j < xs.length := (List.getElem?_eq_some_iff.1 hx).1
      obtain ⟨ad, hA, hc⟩ := h.2.2 (by omega)
      obtain ⟨c, hl, hK, hcell⟩ := hc j x hx
      obtain ⟨r, hr⟩ := raw_of45 hK
      refine ⟨r, fun y hy => ?_⟩
      cases hy
      rw [hr]
      refine ⟨hK, fun ad' he i u hu => ?_⟩
      rw [hA] at he
      cases he
      exact hcell i u hu
  obtain ⟨f, hf⟩ : ∃ f : Nat → Raw, ∀ j x, xs[j]? = some x → k45.K w x (cl (f j)) ∧ ∀ ad, A = some ad → ∀ i u, (cl (f j))[i]? = some u → w.cell? (ad.add (j * 6 + i)) = some u := ⟨fun j => Classical.choose (hp j), fun j => Classical.choose_spec (hp j)⟩
  have hKL : ∀ (ys : List S45) (k : Nat), (∀ j y, ys[j]? = some y → k45.K w y (cl (f (k + j)))) → KN w ys ((List.range' k ys.length).map f) := by
    intro ys
    induction ys with
    | nil => intro k _; exact .nil
    | cons y ys ih =>
      intro k hk
      rw [List.length_cons, List.range'_succ, List.map_cons]
      exact .cons (by have := hk 0 y rfl; simpa using this) (ih (k + 1) (fun j z hz => by have := hk (j + 1) z hz; rwa [show k + (j + 1) = k + 1 + j from by omega] at this))
  refine ⟨(List.range' 0 xs.length).map f, ⟨by simp, by simpa using h.2.1, fun hpos => ?_⟩, hKL xs 0 (fun j y hy => by rw [Nat.zero_add]; exact (hf j y hy).1)⟩
  have hpos' : 0 < xs.length := by simpa using hpos
  obtain ⟨ad, hA, _⟩ := h.2.2 hpos'
  refine ⟨ad, hA, fun j r hr => ?_⟩
  have hj : j < xs.length := by
    have := (List.getElem?_eq_some_iff.1 hr).1
    simpa using this
  have hrj : r = f j := by
    rw [List.getElem?_map, List.getElem?_range' hj] at hr
    simp at hr
    exact hr.symm
  subst hrj
  exact ⟨cl (f j), rfl, kRaw_Kmk w (f j), fun i u hu => (hf j _ (List.getElem?_eq_getElem hj)).2 ad hA i u hu⟩
theorem raw_C45 {w : World} {A : Option Addr} {xs : List S45} {rs : List Raw} (h : kRaw.C w A rs.length rs) (hk : KN w xs rs) : k45.C w A xs.length xs := by
  refine ⟨rfl, by rw [hk.len]; exact h.2.1, fun hpos => ?_⟩
  obtain ⟨ad, hA, hc⟩ := h.2.2 (by rw [← hk.len]; exact hpos)
  refine ⟨ad, hA, fun j x hx => ?_⟩
  obtain ⟨r, hr, hK⟩ := hk.at j x hx
  obtain ⟨c, hl, hKr, hcell⟩ := hc j r hr
  obtain rfl := kRaw_K hKr
  exact ⟨cl r, hl, hK, hcell⟩
theorem info45 : (Tryd.prog.info? 45).map (fun i => (i.zero, i.size, i.bytes)) = some (some (.agg #[.int .i64 0, .int .i64 0, .int .i64 0, .bool false, .string ⟨#[]⟩, .slice none 0 0]), 6, 72) := by kernel_rfl
theorem lit0R45 (W : World) (base : Nat) (hb : base ≤ W.heap.size) : kRaw.R 45 (W.alloc (.cells #[] 45)) base (fun _ => True) (.slice (some ⟨W.heap.size, 0, none⟩) 0 0) [] :=
  ⟨fun _ _ => trivial, [], by have := World.ownsRow_lit (base := base) (e := 45) (size := 6) W #[] 0 hb (by simp) rfl; exact this, Reps.none _ _⟩
end Go.Proofs.YteglfgmgpbablaaDoor.Cmp
namespace Go.Proofs.YteglfgmgpbablaaDoor.Cmp
open Go.RowKit Go.Proofs.YteglfgmgpbablaaDoor.PCompareTells Go.Proofs.YteglfgmgpbablaaDoorW.PrintWords Go.Proofs.YteglfgmgpbablaaDoorW.PrintLast
theorem growL_ok' (l : List S45) : AL 6 (growL l) ∧ W (growL l) ≤ 101 := by
  obtain ⟨n, h1, h2, h3⟩ : ∃ n, n ≤ l.length ∧ n ≤ 25 ∧ ¬ (n < l.length ∧ n < 25) := by
    by_cases h : l.length ≤ 25
    · exact ⟨l.length, Nat.le_refl _, h, by omega⟩
    · exact ⟨25, by omega, Nat.le_refl _, by omega⟩
  have g := growN_grown l n h1
  rw [growL_N l n h1 h2 h3]
  exact ⟨g.attrs, by have := g.weight; omega⟩
theorem below_of_drewN {B n : Nat} {w w' : World} (h : Below B (w.drewN n) w') : Below B w w' := ⟨h.os, h.tape, h.output, h.size, h.block⟩
theorem below_of_drewA {B n : Nat} {w w' : World} {o : Obj} (h : Below B ((w.drewN n).alloc o) w') : Below B (w.alloc o) w' := ⟨h.os, h.tape, h.output, h.size, h.block⟩
theorem cells6 {w : World} {X : Nat} {u0 u1 u2 u3 u4 u5 : Value} {ty : TypeId} {fr : Nat × Nat} (h : w.heap[X]? = some (.cells #[u0, u1, u2, u3, u4, u5] ty fr)) : w.cell? ⟨X, 0, none⟩ = some u0 ∧ w.cell? ⟨X, 1, none⟩ = some u1 ∧ w.cell? ⟨X, 2, none⟩ = some u2 ∧ w.cell? ⟨X, 3, none⟩ = some u3 ∧ w.cell? ⟨X, 4, none⟩ = some u4 ∧ w.cell? ⟨X, 5, none⟩ = some u5 :=
  ⟨cell_of_row w X 0 _ _ _ h, cell_of_row w X 1 _ _ _ h, cell_of_row w X 2 _ _ _ h, cell_of_row w X 3 _ _ _ h, cell_of_row w X 4 _ _ _ h, cell_of_row w X 5 _ _ _ h⟩
theorem WK_at1 : ∀ (l : List S26) (k : Nat), k < l.length → W (l.getD k z26) + 1 ≤ WK l
  | x :: l, 0, _ => by rw [WK]; show W x + 1 ≤ _; omega
  | x :: l, k + 1, h => by rw [WK]; have := WK_at1 l k (by simpa using h); show W (l.getD k z26) + 1 ≤ _; omega
theorem clabelTV (a b : S26) (va vb : Value) (w : World) (ha' : TV w va a) (hb' : TV w vb b) (hn : a.f3.length ≤ 1000000000) :
    Calls Tryd.prog 20 #[va, vb] w fun e w' => e = .returned (.bool (labL a b)) ∧ Below w.heap.size w w' := by
  obtain ⟨A3, c3, A5, c5, rfl, l3, g3, l5, g5⟩ := ha'
  obtain ⟨B3, d3, B5, d5, rfl, m3, j3, m5, j5⟩ := hb'
  exact clabel a b A3 c3 A5 c5 B3 d3 B5 d5 w l3 g3 l5 g5 m3 j3 m5 j5 hn
theorem ALK_getD (n : Nat) : ∀ (l : List S26) (k : Nat), k < l.length → ALK n l → AL n (l.getD k z26)
  | x :: l, 0, _, h => by rw [ALK] at h; exact h.1
  | x :: l, k + 1, h, ha => by rw [ALK] at ha; exact ALK_getD n l k (by simpa using h) ha.2
theorem atL_AL (n : Nat) : ∀ (p : List Int) (t x : S26), atL p t = some x → AL n t → AL n x
  | [], t, x, h, ha => by rw [atL] at h; cases h; exact ha
  | q :: r, t, x, h, ha => by
    rw [atL] at h
    split at h
    · next hq => rw [AL_eq] at ha; exact atL_AL n r _ x h (ALK_getD n _ _ (by omega) ha.2)
    · cases h
theorem atL_W : ∀ (p : List Int) (t x : S26), atL p t = some x → W x + p.length ≤ W t
  | [], t, x, h => by rw [atL] at h; cases h; exact Nat.le_refl _
  | q :: r, t, x, h => by
    rw [atL] at h
    split at h
    · next hq =>
      have h1 := atL_W r _ x h
      have h3 := W_eq t
      have h4 := WK_at1 t.f5 q.toNat (by omega)
      simp only [List.length_cons]
      omega
    · cases h
theorem path_len (p : List Int) (a b : S26) (h : dif a b = some p) : p.length ≤ W a + W b := by
  rcases path_end p a b h with ⟨x, y, h1, h2, _⟩ | ⟨h1, _⟩ | ⟨_, h1⟩
  · have := atL_W p a x h1
    omega
  · obtain ⟨x, hx⟩ := Option.isSome_iff_exists.1 h1
    have := atL_W p a x hx
    omega
  · obtain ⟨x, hx⟩ := Option.isSome_iff_exists.1 h1
    have := atL_W p b x hx
    omega
structure PathSt (w : World) (X Y : Nat) (va vb : Array Value) (Aw : Option Addr) (p : List Int) (a b : S26) (wr : World) : Prop where
  hX : wr.heap[X]? = some (.cells va 26 (0, 0))
  hY : wr.heap[Y]? = some (.cells vb 26 (0, 0))
  ha : TF wr (fun _ => True) (.agg va) a
  hb : TF wr (fun _ => True) (.agg vb) b
  hp : kI.C wr Aw p.length p
  hB : Below w.heap.size w wr
theorem PathSt.step {w : World} {X Y : Nat} {va vb : Array Value} {Aw : Option Addr} {p : List Int} {a b : S26} {wr wr' : World} (h : PathSt w X Y va vb Aw p a b wr) (hb : Below wr.heap.size wr wr') : PathSt w X Y va vb Aw p a b wr' :=
  ⟨(hb.block _ (blk_lt h.hX)).trans h.hX, (hb.block _ (blk_lt h.hY)).trans h.hY, h.ha.below hb, h.hb.below hb, Kd.C_below h.hp hb, below_step h.hB hb⟩
set_option maxHeartbeats 20000000 in
set_option maxRecDepth 100000 in
theorem paths (A : Option Addr) (ca : Nat) (l : List S45) (B : Option Addr) (cb : Nat) (m : List S45) (keep : Int) (w : World) (hC : k45.C w A l.length l ∧ l.length ≤ ca) (hD : k45.C w B m.length m ∧ m.length ≤ cb) (hl : l.length ≤ 1048576) (hm : m.length ≤ 1048576) :
    Calls Tryd.prog 7 #[.slice A l.length ca, .slice B m.length cb, .int .i64 keep] w fun e w' => e = .returned (.bool true) ∧ Below w.heap.size w w' := by
  obtain ⟨u, hul, -, hfu⟩ := within_u keep l.length (by omega)
  have HFU := hide hfu
  have HG := hide (grow l A ca w hC.1 hC.2)
  have hal := growL_ok' l
  obtain ⟨⟨a0, a1, a2, a3, a4, a5⟩, ha⟩ : ∃ a, growL l = a := ⟨_, rfl⟩
  rw [ha] at HG hal
  have HAL := hide hal
  have HLC := hide hC.1
  have HMC := hide hD.1
  have hca := hC.2
  clear hC hD hal ha hfu
  go_enter Tryd.func7, Tryd.ntmps7
  go_wp2_with fail
  (with_reducible refine HG.out.mono ?_)
  rintro e wa ⟨va, rfl, hT, hBa⟩
  obtain ⟨A3, c3, A5, c5, rfl, -⟩ := hT.open_
  dsimp only
  have HT := hide hT
  have HBa := hide hBa
  have HLa := hide (Kd.C_below HLC.out hBa)
  have HMa := hide (Kd.C_below HMC.out hBa)
  clear hT hBa
  go_wp2_with fail
  have b1 := below_alloc (Below.refl wa.heap.size wa) (.cells #[.int .i64 a0, .int .i64 a1, .string a2, .slice A3 a3.length c3, .string a4, .slice A5 a5.length c5] 26)
  have hX := heap_alloc_new wa (.cells #[.int .i64 a0, .int .i64 a1, .string a2, .slice A3 a3.length c3, .string a4, .slice A5 a5.length c5] 26)
  have HTw := hide ((HT.out.bound.below b1).mono (ok' := fun k => k < wa.heap.size) (fun k hk => hk.2))
  have HB := hide (below_step HBa.out b1)
  have HL := hide (Kd.C_below HLC.out HB.out)
  have HM := hide (Kd.C_below HMC.out HB.out)
  have hX' := hide hX
  obtain ⟨w1, hw1⟩ : ∃ w1, wa.alloc (.cells #[.int .i64 a0, .int .i64 a1, .string a2, .slice A3 a3.length c3, .string a4, .slice A5 a5.length c5] 26) = w1 := ⟨_, rfl⟩
  have HXl := hide (show w.heap.size ≤ wa.heap.size from HBa.out.size)
  rw [hw1] at hX' HTw HB HL HM ⊢
  clear hw1 b1 hX HT HBa HLa HMa
  generalize wa.heap.size = X at hX' HTw HXl ⊢
  (with_reducible refine (arbourbook_Within.calls _ _ _ _ _ HFU.out).mono ?_)
  rintro e wb ⟨rfl, ⟨⟨nd, rfl⟩⟩⟩
  dsimp only
  have bq := pw_below_drewN (Below.refl w1.heap.size w1) nd
  have HLq := hide (Kd.C_below HL.out bq)
  have HMq := hide (Kd.C_below HM.out bq)
  have HXq := hide ((bq.block _ (blk_lt hX'.out)).trans hX'.out)
  have HTq := hide (HTw.out.below bq)
  have HBq := hide (below_step HB.out bq)
  obtain ⟨w2, hw2⟩ : ∃ w2, w1.drewN nd = w2 := ⟨_, rfl⟩
  rw [hw2] at HLq HMq HXq HTq HBq ⊢
  clear hw2 bq HL HM hX' HTw HB
  obtain ⟨rl, hrl, hkl⟩ := C_raw45 HLq.out
  obtain ⟨rm, hrm, hkm⟩ := C_raw45 HMq.out
  have hll := hkl.len
  have hml := hkm.len
  have hcu := Kd.C_take hrl (m := u) (by omega)
  have htl : (rl.take u).length = u := by rw [List.length_take]; omega
  rw [htl] at hcu
  rw [← hml] at hrm
  have HCU := hide hcu
  have HCM := hide hrm
  have HKN := hide ((hkl.take u).app hkm)
  have HTL := hide htl
  obtain ⟨i45, hi45⟩ : ∃ i, Tryd.prog.info? 45 = some i := ⟨_, rfl⟩
  have q1 := cut_to (P := Tryd.prog) 22 45 .i64 Tryd.underlying22 hi45 A l.length ca (u : Int) (by omega) (by omega) hca
  rw [Int.toNat_natCast] at q1
  clear hi45 hrl hkl hrm hkm hcu htl
  obtain ⟨rlu, hrlu⟩ : ∃ r, rl.take u = r := ⟨_, rfl⟩
  rw [hrlu] at HCU HKN HTL
  clear hrlu hll hml
  have hu0 : (u : Int) ≤ (l.length : Int) := by omega
  have hu1 : (0 : Int) ≤ (u : Int) := by omega
  go_upto_region 3 with fail
  have hm2 := HTL.out
  go_wp2_with (at_builtin; first
    | (refine Kd.R_append_rows kRaw (Rr := kRaw.K w2) (w0 := w2) w2.heap.size rfl (.tmp 30) (.tmp 33) 22 45 (.agg #[.int .i64 0, .int .i64 0, .int .i64 0, .bool false, .string ⟨#[]⟩, .slice none 0 0]) 72 rfl Tryd.underlying22 info45 rfl (by decide) (by decide) _ [] rlu A u ca (fun _ => True) (fun _ => False) rfl rfl (lit0R45 w2 _ (Nat.le_refl _)) (Kd.C_alloc HCU.out _) (fun _ _ h => kRaw_KM h) (fun k hk => hk.elim) (fun _ _ => trivial) (below_alloc (Below.refl _ _) _) (by simp) (by simp; omega) ?_; intro v1 w3 ho hb hg hown; have HO := hide ho; have HB3 := hide hb; clear ho hb hg hown)
    | (refine Kd.R_append_rows kRaw (Rr := kRaw.K w2) (w0 := w2) w2.heap.size rfl (.tmp 34) (.tmp 35) 22 45 (.agg #[.int .i64 0, .int .i64 0, .int .i64 0, .bool false, .string ⟨#[]⟩, .slice none 0 0]) 72 rfl Tryd.underlying22 info45 rfl (by decide) (by decide) v1 ([] ++ rlu) rm B m.length cb (fun _ => True) (fun _ => False) rfl rfl HO.out (Kd.C_below HCM.out HB3.out) (fun _ _ h => kRaw_KM h) (fun k hk => hk.elim) (fun _ _ => trivial) HB3.out (HB3.out.size) (by simp; omega) ?_; intro v4 w4 ho hb hg hown; have HO4 := hide ho; have HB4 := hide hb; clear ho hb hg hown))
  obtain ⟨A4, c4, rfl, hc4, hC4⟩ := Kd.R_reads HO4.out
  rw [List.nil_append] at hc4 hC4 ⊢
  have hkn4 := HKN.out.step HB4.out
  have hlen4 := hkn4.len
  obtain ⟨z, hz⟩ : ∃ z, l.take u ++ m = z := ⟨_, rfl⟩
  rw [hz] at hkn4 hlen4
  rw [← hlen4] at hc4 ⊢
  have HGb := hide (grow z A4 c4 w4 (raw_C45 hC4 hkn4) hc4)
  have halb := growL_ok' z
  obtain ⟨⟨y0, y1, y2, y3, y4, y5⟩, hb⟩ : ∃ a, growL z = a := ⟨_, rfl⟩
  rw [hb] at HGb halb
  have HALB := hide halb
  clear hb hc4 hC4 hkn4 hlen4 hz halb
  (with_reducible refine HGb.out.mono ?_)
  rintro e w5 ⟨vb, rfl, hTb, hB5⟩
  obtain ⟨B3, d3, B5, d5, rfl, -⟩ := hTb.open_
  dsimp only
  have b6 := below_alloc (Below.refl w5.heap.size w5) (.cells #[.int .i64 y0, .int .i64 y1, .string y2, .slice B3 y3.length d3, .string y4, .slice B5 y5.length d5] 26)
  have hY := heap_alloc_new w5 (.cells #[.int .i64 y0, .int .i64 y1, .string y2, .slice B3 y3.length d3, .string y4, .slice B5 y5.length d5] 26)
  have bw2 := below_step HB4.out hB5
  have HTy := hide (hTb.bound.below b6)
  have HXy := hide (((below_step bw2 b6).block _ (blk_lt HXq.out)).trans HXq.out)
  have HTx := hide (HTq.out.below (below_step bw2 b6))
  have HBy := hide (below_step HBq.out (below_step bw2 b6))
  have HYl := hide (show X < w5.heap.size from Nat.lt_of_lt_of_le (blk_lt HXq.out) bw2.size)
  have hY' := hide hY
  go_upto_region 4 with fail
  obtain ⟨w6, hw6⟩ : ∃ w6, w5.alloc (.cells #[.int .i64 y0, .int .i64 y1, .string y2, .slice B3 y3.length d3, .string y4, .slice B5 y5.length d5] 26) = w6 := ⟨_, rfl⟩
  rw [hw6] at HTy HXy HTx HBy hY' ⊢
  clear hw6 bw2 b6 hY hTb hB5 HXq HTq HBq HO4 HB4 HO HB3 HKN HCU HCM HGb
  generalize w5.heap.size = Y at HYl HTy hY' ⊢
  have HD := hide (diffTV 6 _ _ _ _ w6 HTx.out.now HTy.out.now (by decide) HAL.out.1 HALB.out.1 (by have := HAL.out.2; have := HALB.out.2; omega))
  have HKT := hide (fun w' (hb : Below w6.heap.size w6 w') => keepTree _ _ _ _ w' (HTx.out.below hb).now (HTy.out.below hb).now (AL_up 6 100000000 (by decide) _ _ (Nat.le_refl _) HAL.out.1))
  obtain ⟨x0, x1, x2, x3, x4, x5⟩ := cells6 HXy.out
  obtain ⟨z0, z1, z2, z3, z4, z5⟩ := cells6 hY'.out
  go_wp2_with fail
  (with_reducible refine HD.out.mono ?_)
  rintro e w7 ⟨vw, rfl, hR, hB7⟩
  obtain ⟨Aw, cw, rfl, hcw, hCw⟩ := Kd.R_reads hR
  clear hR HD
  have HK7 := hide (HKT.out w7 hB7)
  have hne : X ≠ Y := Nat.ne_of_lt HYl.out
  have HS7 := hide (PathSt.mk (w := w) ((hB7.block _ (blk_lt HXy.out)).trans HXy.out) ((hB7.block _ (blk_lt hY'.out)).trans hY'.out) ((HTx.out.below hB7).mono (fun _ _ => trivial)) ((HTy.out.below hB7).mono (fun _ _ => trivial)) hCw (below_step HBy.out hB7))
  clear HKT HXy hY' HTx HTy HBy x0 x1 x2 x3 x4 x5 z0 z1 z2 z3 z4 z5 hB7
  obtain ⟨D, hD⟩ : ∃ D, dif ⟨a0, a1, a2, a3, a4, a5⟩ ⟨y0, y1, y2, y3, y4, y5⟩ = D := ⟨_, rfl⟩
  have heq : eqT ⟨a0, a1, a2, a3, a4, a5⟩ ⟨y0, y1, y2, y3, y4, y5⟩ = D.isNone := by unfold eqT; rw [hD]
  rw [heq] at HK7
  rw [hD] at HS7 hcw ⊢
  have HDD := hide hD
  have HCWL := hide hcw
  clear hD heq hCw hcw
  obtain ⟨x0, x1, x2, x3, x4, x5⟩ := cells6 HS7.out.hX
  obtain ⟨z0, z1, z2, z3, z4, z5⟩ := cells6 HS7.out.hY
  rcases D with _ | p
  case none =>
    dsimp only [resD, Option.isNone] at HK7 HS7 HCWL ⊢
    go_wp2_with fail
    (with_reducible refine HK7.out.mono ?_)
    rintro e w8 ⟨rfl, hb8⟩
    dsimp only
    go_wp2_with fail
    (with_reducible refine (known w8).mono ?_)
    rintro e w9 ⟨rfl, hb9⟩
    dsimp only
    have HF := hide (below_step (below_step HS7.out.hB hb8) hb9)
    clear hb8 hb9
    go_wp2_with fail
    go_ret
    exact ⟨rfl, HF.out⟩
  case some =>
    dsimp only [resD, Option.isNone] at HK7 HS7 HCWL ⊢
    go_wp2_with fail
    (with_reducible refine HK7.out.mono ?_)
    rintro e w8 ⟨rfl, hb8⟩
    dsimp only
    have HS8 := hide (HS7.out.step hb8)
    clear HK7 HS7 x0 x1 x2 x3 x4 x5 z0 z1 z2 z3 z4 z5 hb8
    obtain ⟨x0, x1, x2, x3, x4, x5⟩ := cells6 HS8.out.hX
    obtain ⟨z0, z1, z2, z3, z4, z5⟩ := cells6 HS8.out.hY
    have hpe := path_end p _ _ HDD.out
    have HPL := hide (show p.length ≤ 202 by have h1 := path_len p _ _ HDD.out; have := HAL.out.2; have := HALB.out.2; omega)
    have hA1 := at_ _ _ Aw cw p w8 _ HS8.out.ha HS8.out.hp (by have := HAL.out.2; omega) (AL_up 6 100000000 (by decide) _ _ (Nat.le_refl _) HAL.out.1)
    have hA2 := fun (W : World) (hS : PathSt w X Y #[.int .i64 a0, .int .i64 a1, .string a2, .slice A3 a3.length c3, .string a4, .slice A5 a5.length c5] #[.int .i64 y0, .int .i64 y1, .string y2, .slice B3 y3.length d3, .string y4, .slice B5 y5.length d5] Aw p ⟨a0, a1, a2, a3, a4, a5⟩ ⟨y0, y1, y2, y3, y4, y5⟩ W) => at_ _ _ Aw cw p W _ hS.hb hS.hp (by have := HALB.out.2; omega) (AL_up 6 100000000 (by decide) _ _ (Nat.le_refl _) HALB.out.1)
    have HA1' := hide (fun (q : List Int) (W : World) (Q : Option Addr) (cq : Nat) (hS : PathSt w X Y #[.int .i64 a0, .int .i64 a1, .string a2, .slice A3 a3.length c3, .string a4, .slice A5 a5.length c5] #[.int .i64 y0, .int .i64 y1, .string y2, .slice B3 y3.length d3, .string y4, .slice B5 y5.length d5] Aw p ⟨a0, a1, a2, a3, a4, a5⟩ ⟨y0, y1, y2, y3, y4, y5⟩ W) (hq : kI.C W Q q.length q) => at_ _ _ Q cq q W _ hS.ha hq (by have := HAL.out.2; omega) (AL_up 6 100000000 (by decide) _ _ (Nat.le_refl _) HAL.out.1))
    obtain ⟨Ra, hRa⟩ : ∃ R, atL p ⟨a0, a1, a2, a3, a4, a5⟩ = R := ⟨_, rfl⟩
    obtain ⟨Rb, hRb⟩ : ∃ R, atL p ⟨y0, y1, y2, y3, y4, y5⟩ = R := ⟨_, rfl⟩
    rw [hRa] at hA1
    simp only [hRb] at hA2
    rw [hRa, hRb] at hpe
    obtain ⟨⟨r0, r1, r2, r3, r4, r5⟩, hr⟩ : ∃ r, Ra.getD z26 = r := ⟨_, rfl⟩
    obtain ⟨⟨s0, s1, s2, s3, s4, s5⟩, hs⟩ : ∃ r, Rb.getD z26 = r := ⟨_, rfl⟩
    rw [hr] at hA1
    simp only [hs] at hA2
    have HPE := hide hpe
    have HA1 := hide hA1
    have HA2 := hide hA2
    have HRR := hide (And.intro (And.intro hr hs) hRa)
    clear hpe hA1 hA2 hRa hRb hr hs
    go_wp2_with fail
    (with_reducible refine HA1.out.mono ?_)
    rintro e w9 ⟨vp, rfl, hTp, hb9⟩
    obtain ⟨P3, e3, P5, e5, rfl, -⟩ := hTp.open_
    dsimp only
    go_upto_region 10 with fail
    have b10 := below_alloc (Below.refl w9.heap.size w9) (.cells #[.int .i64 r0, .int .i64 r1, .string r2, .slice P3 r3.length e3, .string r4, .slice P5 r5.length e5] 26)
    have hG := heap_alloc_new w9 (.cells #[.int .i64 r0, .int .i64 r1, .string r2, .slice P3 r3.length e3, .string r4, .slice P5 r5.length e5] 26)
    have HS10 := hide ((HS8.out.step hb9).step b10)
    have HTp10 := hide (hTp.below b10)
    obtain ⟨w10, hw10⟩ : ∃ w10, w9.alloc (.cells #[.int .i64 r0, .int .i64 r1, .string r2, .slice P3 r3.length e3, .string r4, .slice P5 r5.length e5] 26) = w10 := ⟨_, rfl⟩
    rw [hw10] at hG HS10 HTp10 ⊢
    have HG10 := hide hG
    clear hw10 b10 hG hTp hb9 HS8 HA1 x0 x1 x2 x3 x4 x5 z0 z1 z2 z3 z4 z5
    generalize w9.heap.size = G at HG10 ⊢
    obtain ⟨z0, z1, z2, z3, z4, z5⟩ := cells6 HS10.out.hY
    go_wp2_with fail
    (with_reducible refine (HA2.out _ HS10.out).mono ?_)
    rintro e w11 ⟨vq, rfl, hTq, hb11⟩
    obtain ⟨Q3, f3, Q5, f5, rfl, -⟩ := hTq.open_
    dsimp only
    go_upto_region 11 with fail
    have b12 := below_alloc (Below.refl w11.heap.size w11) (.cells #[.int .i64 s0, .int .i64 s1, .string s2, .slice Q3 s3.length f3, .string s4, .slice Q5 s5.length f5] 26)
    have hH := heap_alloc_new w11 (.cells #[.int .i64 s0, .int .i64 s1, .string s2, .slice Q3 s3.length f3, .string s4, .slice Q5 s5.length f5] 26)
    have b11 := below_step hb11 b12
    have HS12 := hide (HS10.out.step b11)
    have HTp12 := hide (HTp10.out.below b11)
    have HTq12 := hide (hTq.below b12)
    have HG12 := hide ((b11.block _ (blk_lt HG10.out)).trans HG10.out)
    obtain ⟨w12, hw12⟩ : ∃ w12, w11.alloc (.cells #[.int .i64 s0, .int .i64 s1, .string s2, .slice Q3 s3.length f3, .string s4, .slice Q5 s5.length f5] 26) = w12 := ⟨_, rfl⟩
    rw [hw12] at hH HS12 HTp12 HTq12 HG12 ⊢
    have HH12 := hide hH
    clear hw12 b12 b11 hH hTq hb11 HS10 HTp10 HG10 HA2 z0 z1 z2 z3 z4 z5
    generalize w11.heap.size = H at HH12 ⊢
    obtain ⟨⟨hr, hs⟩, hRa⟩ := HRR.out
    clear HRR
    obtain ⟨x0, x1, x2, x3, x4, x5⟩ := cells6 HG12.out
    obtain ⟨z0, z1, z2, z3, z4, z5⟩ := cells6 HH12.out
    rcases HPE.out with ⟨x, y, rfl, rfl, hlab⟩ | ⟨h1, rfl⟩ | ⟨rfl, h2⟩
    · have hr' : x = _ := hr
      have hs' : y = _ := hs
      subst hr' hs'
      have HLAB := hide (clabelTV _ _ _ _ w12 HTp12.out.now HTq12.out.now (by have h9 := atL_AL 6 p _ _ hRa HAL.out.1; rw [AL_eq] at h9; have h8 := h9.1; dsimp only at h8 ⊢; omega))
      rw [hlab] at HLAB
      clear hlab hr hs hRa HPE HTp12 HTq12
      dsimp only [Option.isSome]
      go_wp2_with fail
      (with_reducible refine HLAB.out.mono ?_)
      rintro e w13 ⟨rfl, hb13⟩
      dsimp only
      have HS13 := hide (HS12.out.step hb13)
      clear hb13 HS12 HLAB HG12 HH12 x0 x1 x2 x3 x4 x5 z0 z1 z2 z3 z4 z5
      go_wp2_with fail
      go_loopw [16, 17, 18, 19, 20, 21] (fun n _ _ _ _ _ wr => ∃ k : Nat, k ≤ p.length ∧ n = .int .i64 (k : Int) ∧ Aside0 (PathSt w X Y #[.int .i64 a0, .int .i64 a1, .string a2, .slice A3 a3.length c3, .string a4, .slice A5 a5.length c5] #[.int .i64 y0, .int .i64 y1, .string y2, .slice B3 y3.length d3, .string y4, .slice B5 y5.length d5] Aw p ⟨a0, a1, a2, a3, a4, a5⟩ ⟨y0, y1, y2, y3, y4, y5⟩ wr)) (fun n _ _ _ _ _ _ => p.length - (intOf n).toNat)
      case atStart => exact ⟨0, Nat.zero_le _, rfl, ⟨HS13.out⟩⟩
      case round =>
        clear HS13
        obtain ⟨k, hk, rfl, hrel⟩ := hrel
        have HS := hide hrel.out
        clear hrel
        obtain ⟨x0, x1, x2, x3, x4, x5⟩ := cells6 HS.out.hX
        obtain ⟨z0, z1, z2, z3, z4, z5⟩ := cells6 HS.out.hY
        by_cases hlt : k < p.length
        · obtain ⟨⟨px0, px1, px2, px3, px4, px5⟩, ⟨qx0, qx1, qx2, qx3, qx4, qx5⟩, kk, hpx, hqx, hlab, hpk, hkk⟩ := path_mid p _ _ HDD.out k hlt
          obtain ⟨aw, haw, hcw⟩ := ints_at HS.out.hp k hlt
          rw [hpk] at hcw
          subst haw
          have HCELL := hide hcw
          have HKK := hide hkk
          have HLT := hide hlt
          have HPA := hide hpx
          clear hcw hkk
          have k1 : (k : Int) < (p.length : Int) := by omega
          have k0 : (0 : Int) ≤ (k : Int) := by omega
          have k2 : (k : Int) ≤ (p.length : Int) := by omega
          obtain ⟨i3, hi3, hs3⟩ : ∃ i, Tryd.prog.info? 3 = some i ∧ i.size = 1 := by
            obtain ⟨i0, hi, hzz⟩ := Option.map_eq_some_iff.1 info3
            simp only [Prod.mk.injEq] at hzz
            exact ⟨i0, hi, hzz.2.1⟩
          have q1 := cut_to (P := Tryd.prog) 31 3 .i64 Tryd.underlying31 hi3 (some aw) p.length cw (k : Int) (by omega) (by omega) HCWL.out
          rw [Int.toNat_natCast] at q1
          clear hi3 hs3
          go_upto_region 16 with fail
          have HAT := hide (show ∀ W' : World, Below wr.heap.size wr W' → Calls Tryd.prog 15 #[.agg #[.int .i64 a0, .int .i64 a1, .string a2, .slice A3 a3.length c3, .string a4, .slice A5 a5.length c5], .slice (some aw) k cw] W' fun e w' => ∃ v, e = .returned (.tuple #[v, .bool true]) ∧ TF w' (fun q => q < wr.heap.size ∨ W'.heap.size ≤ q) v ⟨px0, px1, px2, px3, px4, px5⟩ ∧ Below W'.heap.size W' w' from fun W' hW' => by
            have hh := at_ ⟨a0, a1, a2, a3, a4, a5⟩ (.agg #[.int .i64 a0, .int .i64 a1, .string a2, .slice A3 a3.length c3, .string a4, .slice A5 a5.length c5]) (some aw) cw (p.take k) W' (fun q => q < wr.heap.size) ((HS.out.ha.bound.below hW').mono (fun q hq => hq.2)) (by have := Kd.C_take (Kd.C_below HS.out.hp hW') (m := k) (by omega); exact this) (by have := HAL.out.2; omega) (AL_up 6 100000000 (by decide) _ _ (Nat.le_refl _) HAL.out.1)
            rw [hpx, List.length_take, Nat.min_eq_left (by omega)] at hh
            exact hh)
          have ba := below_alloc (Below.refl wr.heap.size wr) (.cells #[.int .i64 0, .int .i64 0, .string ⟨#[]⟩, .slice none 0 0, .string ⟨#[]⟩, .slice none 0 0] 26)
          have x0' := cellW x0 ba
          have x1' := cellW x1 ba
          have x2' := cellW x2 ba
          have x3' := cellW x3 ba
          have x4' := cellW x4 ba
          have x5' := cellW x5 ba
          clear ba
          have hd1 : Below wr.heap.size wr (wr.alloc (.cells #[.int .i64 0, .int .i64 0, .string ⟨#[]⟩, .slice none 0 0, .string ⟨#[]⟩, .slice none 0 0] 26)).drew := pw_below_drewN (below_alloc (Below.refl _ _) _) 1
          have hd2 : Below wr.heap.size wr (wr.drew.alloc (.cells #[.int .i64 0, .int .i64 0, .string ⟨#[]⟩, .slice none 0 0, .string ⟨#[]⟩, .slice none 0 0] 26)) := below_alloc (pw_below_drewN (Below.refl wr.heap.size wr) 1) _
          have hd3 : Below wr.heap.size wr wr.drew := pw_below_drewN (Below.refl wr.heap.size wr) 1
          have HZN := hide (heap_alloc_new wr (.cells #[.int .i64 0, .int .i64 0, .string ⟨#[]⟩, .slice none 0 0, .string ⟨#[]⟩, .slice none 0 0] 26))
          go_cut [17, 18] from 94 to 101 (fun vp vt wx => vt = .bool true ∧ Rel11 wr (fun _ => True) ⟨px0, px1, px2, px3, px4, px5⟩ [] vp (.slice none 0 0) wx)
          case first =>
            go_region_with (first
              | (go_at_call 15; (with_reducible refine (HAT.out ((wr.alloc (.cells #[.int .i64 0, .int .i64 0, .string ⟨#[]⟩, .slice none 0 0, .string ⟨#[]⟩, .slice none 0 0] 26)).drew) hd1).mono ?_); rintro e wu ⟨v, rfl, hT, hBu⟩; obtain ⟨N3, n3, N5, n5', rfl, -⟩ := hT.open_; have hZ := (hBu.block wr.heap.size (by simp [World.drew])).trans HZN.out; have p0 := cell_of_row _ _ 0 _ _ _ hZ; have o0 := blk_frozen hZ 0; have p1 := cell_of_row _ _ 1 _ _ _ hZ; have o1 := blk_frozen hZ 1; have p2 := cell_of_row _ _ 2 _ _ _ hZ; have o2 := blk_frozen hZ 2; have p3 := cell_of_row _ _ 3 _ _ _ hZ; have o3 := blk_frozen hZ 3; have p4 := cell_of_row _ _ 4 _ _ _ hZ; have o4 := blk_frozen hZ 4; have p5 := cell_of_row _ _ 5 _ _ _ hZ; have o5 := blk_frozen hZ 5; have HTB := hide hT; have HBB := hide (below_of_drewN (n := 1) hBu); clear hT hBu hZ)
              | (go_at_call 15; (with_reducible refine (HAT.out (wr.drew.alloc (.cells #[.int .i64 0, .int .i64 0, .string ⟨#[]⟩, .slice none 0 0, .string ⟨#[]⟩, .slice none 0 0] 26)) hd2).mono ?_); rintro e wu ⟨v, rfl, hT, hBu⟩; obtain ⟨N3, n3, N5, n5', rfl, -⟩ := hT.open_; have hZ := (hBu.block wr.heap.size (by simp [World.drew])).trans (heap_alloc_new wr.drew (.cells #[.int .i64 0, .int .i64 0, .string ⟨#[]⟩, .slice none 0 0, .string ⟨#[]⟩, .slice none 0 0] 26)); have p0 := cell_of_row _ _ 0 _ _ _ hZ; have o0 := blk_frozen hZ 0; have p1 := cell_of_row _ _ 1 _ _ _ hZ; have o1 := blk_frozen hZ 1; have p2 := cell_of_row _ _ 2 _ _ _ hZ; have o2 := blk_frozen hZ 2; have p3 := cell_of_row _ _ 3 _ _ _ hZ; have o3 := blk_frozen hZ 3; have p4 := cell_of_row _ _ 4 _ _ _ hZ; have o4 := blk_frozen hZ 4; have p5 := cell_of_row _ _ 5 _ _ _ hZ; have o5 := blk_frozen hZ 5; have HTB := hide hT; have HBB := hide (below_of_drewA (n := 1) hBu); clear hT hBu hZ)
              | (go_at_call 15; (with_reducible refine (HAT.out wr.drew hd3).mono ?_); rintro e wu ⟨v, rfl, hT, hBu⟩; obtain ⟨N3, n3, N5, n5', rfl, -⟩ := hT.open_; have HTA := hide hT; have HBA := hide (below_of_drewN (n := 1) hBu); clear hT hBu))
            all_goals (
              go_wp2_with fail
              go_meet
              refine ⟨rfl, ?_⟩
              first
              | (have h := HTA.out
                 have hb' := HBA.out
                 exact rel11A (y := ⟨px0, px1, px2, px3, px4, px5⟩) hb' (h.mono (fun _ _ => trivial)) (WF.nil _ _))
              | (have h := HTB.out
                 have hb' := HBB.out
                 exact rel11B (okk := fun q => q < wr.heap.size ∨ wr.heap.size + 1 ≤ q) (y := ⟨px0, px1, px2, px3, px4, px5⟩) (by simpa [World.drew] using hb') (h.mono (fun q hq => hq.imp id (fun h => by simpa [World.drew] using h))) (WF.nil _ _) (fun q hq => by omega) (fun _ _ => trivial)))
          case rest =>
            obtain ⟨rfl, P2, P3, e3, P5, e5, rfl, hP2, hTP, -, hP2g, hBc⟩ := hcut
            dsimp only at hP2 hTP
            have HS16 := hide (HS.out.step hBc)
            have HP16 := hide hP2
            have HTP16 := hide hTP
            have HCELL16 := hide (cellW HCELL.out hBc)
            obtain ⟨w16, hw16⟩ : ∃ v, v = wc := ⟨_, rfl⟩
            subst hw16
            clear hP2 hTP hP2g hBc HAT HZN hd1 hd2 hd3 HS HCELL
            clear x0 x0' x1 x1' x2 x2' x3 x3' x4 x4' x5 x5' z0 z1 z2 z3 z4 z5
            obtain ⟨z0, z1, z2, z3, z4, z5⟩ := cells6 HS16.out.hY
            go_upto_region 17 with fail
            have HAT := hide (show ∀ W' : World, Below w16.heap.size w16 W' → Calls Tryd.prog 15 #[.agg #[.int .i64 y0, .int .i64 y1, .string y2, .slice B3 y3.length d3, .string y4, .slice B5 y5.length d5], .slice (some aw) k cw] W' fun e w' => ∃ v, e = .returned (.tuple #[v, .bool true]) ∧ TF w' (fun q => q < w16.heap.size ∨ W'.heap.size ≤ q) v ⟨qx0, qx1, qx2, qx3, qx4, qx5⟩ ∧ Below W'.heap.size W' w' from fun W' hW' => by
              have hh := at_ ⟨y0, y1, y2, y3, y4, y5⟩ (.agg #[.int .i64 y0, .int .i64 y1, .string y2, .slice B3 y3.length d3, .string y4, .slice B5 y5.length d5]) (some aw) cw (p.take k) W' (fun q => q < w16.heap.size) ((HS16.out.hb.bound.below hW').mono (fun q hq => hq.2)) (by have := Kd.C_take (Kd.C_below HS16.out.hp hW') (m := k) (by omega); exact this) (by have := HALB.out.2; omega) (AL_up 6 100000000 (by decide) _ _ (Nat.le_refl _) HALB.out.1)
              rw [hqx, List.length_take, Nat.min_eq_left (by omega)] at hh
              exact hh)
            have ba := below_alloc (Below.refl w16.heap.size w16) (.cells #[.int .i64 0, .int .i64 0, .string ⟨#[]⟩, .slice none 0 0, .string ⟨#[]⟩, .slice none 0 0] 26)
            have z0' := cellW z0 ba
            have z1' := cellW z1 ba
            have z2' := cellW z2 ba
            have z3' := cellW z3 ba
            have z4' := cellW z4 ba
            have z5' := cellW z5 ba
            clear ba
            have hd1 : Below w16.heap.size w16 (w16.alloc (.cells #[.int .i64 0, .int .i64 0, .string ⟨#[]⟩, .slice none 0 0, .string ⟨#[]⟩, .slice none 0 0] 26)).drew := pw_below_drewN (below_alloc (Below.refl _ _) _) 1
            have hd2 : Below w16.heap.size w16 (w16.drew.alloc (.cells #[.int .i64 0, .int .i64 0, .string ⟨#[]⟩, .slice none 0 0, .string ⟨#[]⟩, .slice none 0 0] 26)) := below_alloc (pw_below_drewN (Below.refl w16.heap.size w16) 1) _
            have hd3 : Below w16.heap.size w16 w16.drew := pw_below_drewN (Below.refl w16.heap.size w16) 1
            have HZN := hide (heap_alloc_new w16 (.cells #[.int .i64 0, .int .i64 0, .string ⟨#[]⟩, .slice none 0 0, .string ⟨#[]⟩, .slice none 0 0] 26))
            go_cut [19, 20] from 102 to 109 (fun vp vt wx => vt = .bool true ∧ Rel11 w16 (fun _ => True) ⟨qx0, qx1, qx2, qx3, qx4, qx5⟩ [] vp (.slice none 0 0) wx)
            case first =>
              go_region_with (first
                | (go_at_call 15; (with_reducible refine (HAT.out ((w16.alloc (.cells #[.int .i64 0, .int .i64 0, .string ⟨#[]⟩, .slice none 0 0, .string ⟨#[]⟩, .slice none 0 0] 26)).drew) hd1).mono ?_); rintro e wu ⟨v, rfl, hT, hBu⟩; obtain ⟨N3, n3, N5, n5', rfl, -⟩ := hT.open_; have hZ := (hBu.block w16.heap.size (by simp [World.drew])).trans HZN.out; have p0 := cell_of_row _ _ 0 _ _ _ hZ; have o0 := blk_frozen hZ 0; have p1 := cell_of_row _ _ 1 _ _ _ hZ; have o1 := blk_frozen hZ 1; have p2 := cell_of_row _ _ 2 _ _ _ hZ; have o2 := blk_frozen hZ 2; have p3 := cell_of_row _ _ 3 _ _ _ hZ; have o3 := blk_frozen hZ 3; have p4 := cell_of_row _ _ 4 _ _ _ hZ; have o4 := blk_frozen hZ 4; have p5 := cell_of_row _ _ 5 _ _ _ hZ; have o5 := blk_frozen hZ 5; have HTB := hide hT; have HBB := hide (below_of_drewN (n := 1) hBu); clear hT hBu hZ)
                | (go_at_call 15; (with_reducible refine (HAT.out (w16.drew.alloc (.cells #[.int .i64 0, .int .i64 0, .string ⟨#[]⟩, .slice none 0 0, .string ⟨#[]⟩, .slice none 0 0] 26)) hd2).mono ?_); rintro e wu ⟨v, rfl, hT, hBu⟩; obtain ⟨N3, n3, N5, n5', rfl, -⟩ := hT.open_; have hZ := (hBu.block w16.heap.size (by simp [World.drew])).trans (heap_alloc_new w16.drew (.cells #[.int .i64 0, .int .i64 0, .string ⟨#[]⟩, .slice none 0 0, .string ⟨#[]⟩, .slice none 0 0] 26)); have p0 := cell_of_row _ _ 0 _ _ _ hZ; have o0 := blk_frozen hZ 0; have p1 := cell_of_row _ _ 1 _ _ _ hZ; have o1 := blk_frozen hZ 1; have p2 := cell_of_row _ _ 2 _ _ _ hZ; have o2 := blk_frozen hZ 2; have p3 := cell_of_row _ _ 3 _ _ _ hZ; have o3 := blk_frozen hZ 3; have p4 := cell_of_row _ _ 4 _ _ _ hZ; have o4 := blk_frozen hZ 4; have p5 := cell_of_row _ _ 5 _ _ _ hZ; have o5 := blk_frozen hZ 5; have HTB := hide hT; have HBB := hide (below_of_drewA (n := 1) hBu); clear hT hBu hZ)
                | (go_at_call 15; (with_reducible refine (HAT.out w16.drew hd3).mono ?_); rintro e wu ⟨v, rfl, hT, hBu⟩; obtain ⟨N3, n3, N5, n5', rfl, -⟩ := hT.open_; have HTA := hide hT; have HBA := hide (below_of_drewN (n := 1) hBu); clear hT hBu))
              all_goals (
                go_wp2_with fail
                go_meet
                refine ⟨rfl, ?_⟩
                first
                | (have h := HTA.out
                   have hb' := HBA.out
                   exact rel11A (y := ⟨qx0, qx1, qx2, qx3, qx4, qx5⟩) hb' (h.mono (fun _ _ => trivial)) (WF.nil _ _))
                | (have h := HTB.out
                   have hb' := HBB.out
                   exact rel11B (okk := fun q => q < w16.heap.size ∨ w16.heap.size + 1 ≤ q) (y := ⟨qx0, qx1, qx2, qx3, qx4, qx5⟩) (by simpa [World.drew] using hb') (h.mono (fun q hq => hq.imp id (fun h => by simpa [World.drew] using h))) (WF.nil _ _) (fun q hq => by omega) (fun _ _ => trivial)))
            case rest =>
              obtain ⟨rfl, Q2, Q3, f3, Q5, f5, rfl, hQ2, hTQ, -, hQ2g, hBc⟩ := hcut
              dsimp only at hQ2 hTQ
              have HS17 := hide (HS16.out.step hBc)
              have HCELL17 := hide (cellW HCELL16.out hBc)
              have HM17 := hide (show PathSt w P2 Q2 #[.int .i64 px0, .int .i64 px1, .string px2, .slice P3 px3.length e3, .string px4, .slice P5 px5.length e5] #[.int .i64 qx0, .int .i64 qx1, .string qx2, .slice Q3 qx3.length f3, .string qx4, .slice Q5 qx5.length f5] (some aw) p ⟨px0, px1, px2, px3, px4, px5⟩ ⟨qx0, qx1, qx2, qx3, qx4, qx5⟩ wc from ⟨(hBc.block _ (blk_lt HP16.out)).trans HP16.out, hQ2, HTP16.out.below hBc, hTQ, HS17.out.hp, HS17.out.hB⟩)
              obtain ⟨w17, hw17⟩ : ∃ v, v = wc := ⟨_, rfl⟩
              subst hw17
              clear hQ2 hTQ hQ2g hBc HAT HZN hd1 hd2 hd3 HS16 HP16 HTP16 HCELL16
              clear z0 z0' z1 z1' z2 z2' z3 z3' z4 z4' z5 z5'
              obtain ⟨x0, x1, x2, x3, x4, x5⟩ := cells6 HM17.out.hX
              obtain ⟨z0, z1, z2, z3, z4, z5⟩ := cells6 HM17.out.hY
              have HLAB := hide (clabelTV _ _ _ _ w17 HM17.out.ha.now HM17.out.hb.now (by have h9 := atL_AL 6 _ _ _ hpx HAL.out.1; rw [AL_eq] at h9; have h8 := h9.1; dsimp only at h8 ⊢; omega))
              rw [hlab] at HLAB
              clear hlab hpx hqx
              go_wp2_with fail
              (with_reducible refine HLAB.out.mono ?_)
              rintro e w18 ⟨rfl, hb18⟩
              dsimp only
              have HS18 := hide (HS17.out.step hb18)
              have HM18 := hide (HM17.out.step hb18)
              clear hb18 HS17 HM17 HLAB HCELL17
              clear x0 x1 x2 x3 x4 x5 z0 z1 z2 z3 z4 z5
              go_wp2_with fail
              go_loopw [21] (fun i wr => ∃ j : Nat, j ≤ kk ∧ i = .int .i64 (j : Int) ∧ Aside0 (PathSt w X Y #[.int .i64 a0, .int .i64 a1, .string a2, .slice A3 a3.length c3, .string a4, .slice A5 a5.length c5] #[.int .i64 y0, .int .i64 y1, .string y2, .slice B3 y3.length d3, .string y4, .slice B5 y5.length d5] (some aw) p ⟨a0, a1, a2, a3, a4, a5⟩ ⟨y0, y1, y2, y3, y4, y5⟩ wr ∧ PathSt w P2 Q2 #[.int .i64 px0, .int .i64 px1, .string px2, .slice P3 px3.length e3, .string px4, .slice P5 px5.length e5] #[.int .i64 qx0, .int .i64 qx1, .string qx2, .slice Q3 qx3.length f3, .string qx4, .slice Q5 qx5.length f5] (some aw) p ⟨px0, px1, px2, px3, px4, px5⟩ ⟨qx0, qx1, qx2, qx3, qx4, qx5⟩ wr)) (fun i _ => kk - (intOf i).toNat)
              case atStart => exact ⟨0, Nat.zero_le _, rfl, ⟨HS18.out, HM18.out⟩⟩
              case round =>
                clear HS18 HM18
                obtain ⟨j, hj, rfl, hrel⟩ := hrel
                have HS := hide hrel.out.1
                have HM := hide hrel.out.2
                clear hrel
                obtain ⟨aw', haw, hcw⟩ := ints_at HS.out.hp k HLT.out
                cases haw
                rw [hpk] at hcw
                obtain ⟨-, -, -, -, -, x5⟩ := cells6 HM.out.hX
                obtain ⟨-, -, -, -, -, z5⟩ := cells6 HM.out.hY
                have j0 : (0 : Int) ≤ (j : Int) := by omega
                by_cases hlj : j < kk
                · obtain ⟨hj1, hj2, hje⟩ := HKK.out j hlj
                  obtain ⟨_, _, _, _, e9, -, -, -, g5⟩ := HM.out.ha.open_
                  injection e9 with e9
                  injection e9 with e9
                  simp only [List.cons.injEq, Value.slice.injEq] at e9
                  obtain ⟨-, -, -, ⟨rfl, -, rfl⟩, -, ⟨rfl, -, rfl⟩, -⟩ := e9
                  obtain ⟨_, _, _, _, e9, -, -, -, g6⟩ := HM.out.hb.open_
                  injection e9 with e9
                  injection e9 with e9
                  simp only [List.cons.injEq, Value.slice.injEq] at e9
                  obtain ⟨-, -, -, ⟨rfl, -, rfl⟩, -, ⟨rfl, -, rfl⟩, -⟩ := e9
                  obtain ⟨ak, K3, m3, K5, m5, hak, g0_, g1_, g2_, g3_, g4_, g5_, hTk⟩ := kid_read g5 j hj1
                  subst hak
                  obtain ⟨bk, L3, n3, L5, n5, hbk, h0_, h1_, h2_, h3_, h4_, h5_, hTl⟩ := kid_read g6 j hj2
                  subst hbk
                  have hAk := ALK_getD 100000000 px5 j hj1 (by have h9 := atL_AL 100000000 _ _ _ HPA.out (AL_up 6 100000000 (by decide) _ _ (Nat.le_refl _) HAL.out.1); rw [AL_eq] at h9; exact h9.2)
                  have HC := hide (fun (W1 : World) (hb : Below wr.heap.size wr W1) => keepTree _ _ _ _ W1 (hTk.now.below hb) (hTl.now.below hb) hAk)
                  simp only [hje] at HC
                  obtain ⟨⟨kx0, kx1, kx2, kx3, kx4, kx5⟩, hkx⟩ : ∃ q, px5.getD j z26 = q := ⟨_, rfl⟩
                  obtain ⟨⟨ky0, ky1, ky2, ky3, ky4, ky5⟩, hky⟩ : ∃ q, qx5.getD j z26 = q := ⟨_, rfl⟩
                  rw [hkx] at HC g0_ g1_ g2_ g3_ g4_ g5_
                  rw [hky] at HC h0_ h1_ h2_ h3_ h4_ h5_
                  dsimp only at HC g0_ g1_ g2_ g3_ g4_ g5_ h0_ h1_ h2_ h3_ h4_ h5_
                  have hj9 : px5.length ≤ 9223372036854775807 := (Kd.F_now g5).2.1
                  have j1 : (j : Int) < (kk : Int) := by omega
                  have j2 : ¬ ((px5.length : Int) ≤ (j : Int)) := by omega
                  have j3 : ¬ ((qx5.length : Int) ≤ (j : Int)) := by omega
                  have j2' : ¬ (px5.length ≤ j) := by omega
                  have j3' : ¬ (qx5.length ≤ j) := by omega
                  have j4 : (j : Int) < (px5.length : Int) := by omega
                  have j5 : (j : Int) < (qx5.length : Int) := by omega
                  clear hkx hky hAk hTk hTl g5 g6 hje hj hlj
                  go_upto_region 23 with fail
                  have AS_ := hide (show ∀ W1 : World, Below wr.heap.size wr W1 → (W1.cell? ⟨P2, 5, none⟩ = some (.slice (some ak) px5.length e5) ∧ W1.cell? ⟨Q2, 5, none⟩ = some (.slice (some bk) qx5.length f5) ∧ W1.cell? (ak.add (j * 6)) = some (.int .i64 kx0) ∧ W1.cell? ⟨(ak.add (j * 6)).block, (ak.add (j * 6)).off + 1, none⟩ = some (.int .i64 kx1) ∧ W1.cell? ⟨(ak.add (j * 6)).block, (ak.add (j * 6)).off + 2, none⟩ = some (.string kx2) ∧ W1.cell? ⟨(ak.add (j * 6)).block, (ak.add (j * 6)).off + 3, none⟩ = some (.slice K3 kx3.length m3) ∧ W1.cell? ⟨(ak.add (j * 6)).block, (ak.add (j * 6)).off + 4, none⟩ = some (.string kx4) ∧ W1.cell? ⟨(ak.add (j * 6)).block, (ak.add (j * 6)).off + 5, none⟩ = some (.slice K5 kx5.length m5) ∧ W1.cell? (bk.add (j * 6)) = some (.int .i64 ky0) ∧ W1.cell? ⟨(bk.add (j * 6)).block, (bk.add (j * 6)).off + 1, none⟩ = some (.int .i64 ky1) ∧ W1.cell? ⟨(bk.add (j * 6)).block, (bk.add (j * 6)).off + 2, none⟩ = some (.string ky2) ∧ W1.cell? ⟨(bk.add (j * 6)).block, (bk.add (j * 6)).off + 3, none⟩ = some (.slice L3 ky3.length n3) ∧ W1.cell? ⟨(bk.add (j * 6)).block, (bk.add (j * 6)).off + 4, none⟩ = some (.string ky4) ∧ W1.cell? ⟨(bk.add (j * 6)).block, (bk.add (j * 6)).off + 5, none⟩ = some (.slice L5 ky5.length n5)) from fun W1 hb => ⟨cellW x5 hb, cellW z5 hb, cellW g0_ hb, cellW g1_ hb, cellW g2_ hb, cellW g3_ hb, cellW g4_ hb, cellW g5_ hb, cellW h0_ hb, cellW h1_ hb, cellW h2_ hb, cellW h3_ hb, cellW h4_ hb, cellW h5_ hb⟩)
                  have hdr : Below wr.heap.size wr wr.drew := below_drew (Below.refl _ _)
                  have hI : (fun W1 : World => (W1.cell? ⟨P2, 5, none⟩ = some (.slice (some ak) px5.length e5) ∧ W1.cell? ⟨Q2, 5, none⟩ = some (.slice (some bk) qx5.length f5) ∧ W1.cell? (ak.add (j * 6)) = some (.int .i64 kx0) ∧ W1.cell? ⟨(ak.add (j * 6)).block, (ak.add (j * 6)).off + 1, none⟩ = some (.int .i64 kx1) ∧ W1.cell? ⟨(ak.add (j * 6)).block, (ak.add (j * 6)).off + 2, none⟩ = some (.string kx2) ∧ W1.cell? ⟨(ak.add (j * 6)).block, (ak.add (j * 6)).off + 3, none⟩ = some (.slice K3 kx3.length m3) ∧ W1.cell? ⟨(ak.add (j * 6)).block, (ak.add (j * 6)).off + 4, none⟩ = some (.string kx4) ∧ W1.cell? ⟨(ak.add (j * 6)).block, (ak.add (j * 6)).off + 5, none⟩ = some (.slice K5 kx5.length m5) ∧ W1.cell? (bk.add (j * 6)) = some (.int .i64 ky0) ∧ W1.cell? ⟨(bk.add (j * 6)).block, (bk.add (j * 6)).off + 1, none⟩ = some (.int .i64 ky1) ∧ W1.cell? ⟨(bk.add (j * 6)).block, (bk.add (j * 6)).off + 2, none⟩ = some (.string ky2) ∧ W1.cell? ⟨(bk.add (j * 6)).block, (bk.add (j * 6)).off + 3, none⟩ = some (.slice L3 ky3.length n3) ∧ W1.cell? ⟨(bk.add (j * 6)).block, (bk.add (j * 6)).off + 4, none⟩ = some (.string ky4) ∧ W1.cell? ⟨(bk.add (j * 6)).block, (bk.add (j * 6)).off + 5, none⟩ = some (.slice L5 ky5.length n5)) ∧ Below wr.heap.size wr W1) wr.drew := ⟨AS_.out _ hdr, hdr⟩
                  clear hdr g0_ g1_ g2_ g3_ g4_ g5_ h0_ h1_ h2_ h3_ h4_ h5_ x5 z5
                  first
                  | go_region_held3 (fun W1 => (W1.cell? ⟨P2, 5, none⟩ = some (.slice (some ak) px5.length e5) ∧ W1.cell? ⟨Q2, 5, none⟩ = some (.slice (some bk) qx5.length f5) ∧ W1.cell? (ak.add (j * 6)) = some (.int .i64 kx0) ∧ W1.cell? ⟨(ak.add (j * 6)).block, (ak.add (j * 6)).off + 1, none⟩ = some (.int .i64 kx1) ∧ W1.cell? ⟨(ak.add (j * 6)).block, (ak.add (j * 6)).off + 2, none⟩ = some (.string kx2) ∧ W1.cell? ⟨(ak.add (j * 6)).block, (ak.add (j * 6)).off + 3, none⟩ = some (.slice K3 kx3.length m3) ∧ W1.cell? ⟨(ak.add (j * 6)).block, (ak.add (j * 6)).off + 4, none⟩ = some (.string kx4) ∧ W1.cell? ⟨(ak.add (j * 6)).block, (ak.add (j * 6)).off + 5, none⟩ = some (.slice K5 kx5.length m5) ∧ W1.cell? (bk.add (j * 6)) = some (.int .i64 ky0) ∧ W1.cell? ⟨(bk.add (j * 6)).block, (bk.add (j * 6)).off + 1, none⟩ = some (.int .i64 ky1) ∧ W1.cell? ⟨(bk.add (j * 6)).block, (bk.add (j * 6)).off + 2, none⟩ = some (.string ky2) ∧ W1.cell? ⟨(bk.add (j * 6)).block, (bk.add (j * 6)).off + 3, none⟩ = some (.slice L3 ky3.length n3) ∧ W1.cell? ⟨(bk.add (j * 6)).block, (bk.add (j * 6)).off + 4, none⟩ = some (.string ky4) ∧ W1.cell? ⟨(bk.add (j * 6)).block, (bk.add (j * 6)).off + 5, none⟩ = some (.slice L5 ky5.length n5)) ∧ Below wr.heap.size wr W1)
                      (first | exact hI | ((try go_split_ands); exact ⟨AS_.out _ (below_step (by assumption) bN), below_step (by assumption) bN⟩) | go_keep)
                      (first | (go_at_call 19; (try go_split_ands); (with_reducible refine (HC.out _ (by assumption)).mono ?_); rintro e wn ⟨rfl, bN⟩))
                  | fail
                  (try go_split_ands)
                  go_wp2_with fail
                  go_roundw
                  case rel => exact ⟨j + 1, by omega, by go_num, ⟨HS.out.step (by assumption), HM.out.step (by assumption)⟩⟩
                  case measure => simp [intOf]; omega
                · have hpl : p.length ≤ 9223372036854775807 := by have := HPL.out; omega
                  have j1 : ¬ (j : Int) < (kk : Int) := by omega
                  clear x5 z5
                  go_wp2_with fail
                  go_roundw
                  case rel => exact ⟨k + 1, by have := HLT.out; omega, by go_num, ⟨HS.out⟩⟩
                  case measure => simp [intOf]; have := HLT.out; omega
        · have k1 : ¬ (k : Int) < (p.length : Int) := by omega
          have HD2 := hide (diffTV 6 _ _ _ _ wr HS.out.hb.now HS.out.ha.now (by decide) HALB.out.1 HAL.out.1 (by have := HAL.out.2; have := HALB.out.2; omega))
          rw [dif_symm, HDD.out] at HD2
          go_wp2_with fail
          (with_reducible refine HD2.out.mono ?_)
          rintro e w30 ⟨vv, rfl, hR, hB30⟩
          obtain ⟨Av, cv, rfl, hcv, hCv⟩ := Kd.R_reads hR
          dsimp only [resD] at hcv hCv ⊢
          have HS30 := hide (HS.out.step hB30)
          have HCV := hide hCv
          have hcl := hcv
          clear hR hB30 HD2 HS hCv
          clear x0 x1 x2 x3 x4 x5 z0 z1 z2 z3 z4 z5
          go_wp2_with fail
          (with_reducible refine (arbourbook_Same_int.calls (p.length + 1) Av cv p Aw cw p true w30 HCV.out hcl HS30.out.hp HCWL.out (sameInts p (by have := HPL.out; omega))).mono ?_)
          rintro e w31 ⟨rfl, dN⟩
          dsimp only
          have HS31 := hide (HS30.out.step (Drawn0.below dN))
          clear dN HS30 HCV
          go_wp2_with fail
          (with_reducible refine (known w31).mono ?_)
          rintro e w32 ⟨rfl, hb32⟩
          dsimp only
          have HF := hide (below_step HS31.out.hB hb32)
          clear hb32 HS31
          go_wp2_with fail
          go_ret
          exact ⟨rfl, HF.out⟩
    · obtain ⟨xx, rfl⟩ := Option.isSome_iff_exists.1 h1
      have HS13 := hide HS12.out
      clear HS12 HPE HTp12 HTq12 HG12 HH12 hr hs hRa h1
      clear x0 x1 x2 x3 x4 x5 z0 z1 z2 z3 z4 z5
      dsimp only [Option.isSome]
      go_wp2_with fail
      go_loopw [16, 17, 18, 19, 20, 21] (fun n _ _ _ _ _ wr => ∃ k : Nat, k ≤ p.length ∧ n = .int .i64 (k : Int) ∧ Aside0 (PathSt w X Y #[.int .i64 a0, .int .i64 a1, .string a2, .slice A3 a3.length c3, .string a4, .slice A5 a5.length c5] #[.int .i64 y0, .int .i64 y1, .string y2, .slice B3 y3.length d3, .string y4, .slice B5 y5.length d5] Aw p ⟨a0, a1, a2, a3, a4, a5⟩ ⟨y0, y1, y2, y3, y4, y5⟩ wr)) (fun n _ _ _ _ _ _ => p.length - (intOf n).toNat)
      case atStart => exact ⟨0, Nat.zero_le _, rfl, ⟨HS13.out⟩⟩
      case round =>
        clear HS13
        obtain ⟨k, hk, rfl, hrel⟩ := hrel
        have HS := hide hrel.out
        clear hrel
        obtain ⟨x0, x1, x2, x3, x4, x5⟩ := cells6 HS.out.hX
        obtain ⟨z0, z1, z2, z3, z4, z5⟩ := cells6 HS.out.hY
        by_cases hlt : k < p.length
        · obtain ⟨⟨px0, px1, px2, px3, px4, px5⟩, ⟨qx0, qx1, qx2, qx3, qx4, qx5⟩, kk, hpx, hqx, hlab, hpk, hkk⟩ := path_mid p _ _ HDD.out k hlt
          obtain ⟨aw, haw, hcw⟩ := ints_at HS.out.hp k hlt
          rw [hpk] at hcw
          subst haw
          have HCELL := hide hcw
          have HKK := hide hkk
          have HLT := hide hlt
          have HPA := hide hpx
          clear hcw hkk
          have k1 : (k : Int) < (p.length : Int) := by omega
          have k0 : (0 : Int) ≤ (k : Int) := by omega
          have k2 : (k : Int) ≤ (p.length : Int) := by omega
          obtain ⟨i3, hi3, hs3⟩ : ∃ i, Tryd.prog.info? 3 = some i ∧ i.size = 1 := by
            obtain ⟨i0, hi, hzz⟩ := Option.map_eq_some_iff.1 info3
            simp only [Prod.mk.injEq] at hzz
            exact ⟨i0, hi, hzz.2.1⟩
          have q1 := cut_to (P := Tryd.prog) 31 3 .i64 Tryd.underlying31 hi3 (some aw) p.length cw (k : Int) (by omega) (by omega) HCWL.out
          rw [Int.toNat_natCast] at q1
          clear hi3 hs3
          go_upto_region 16 with fail
          have HAT := hide (show ∀ W' : World, Below wr.heap.size wr W' → Calls Tryd.prog 15 #[.agg #[.int .i64 a0, .int .i64 a1, .string a2, .slice A3 a3.length c3, .string a4, .slice A5 a5.length c5], .slice (some aw) k cw] W' fun e w' => ∃ v, e = .returned (.tuple #[v, .bool true]) ∧ TF w' (fun q => q < wr.heap.size ∨ W'.heap.size ≤ q) v ⟨px0, px1, px2, px3, px4, px5⟩ ∧ Below W'.heap.size W' w' from fun W' hW' => by
            have hh := at_ ⟨a0, a1, a2, a3, a4, a5⟩ (.agg #[.int .i64 a0, .int .i64 a1, .string a2, .slice A3 a3.length c3, .string a4, .slice A5 a5.length c5]) (some aw) cw (p.take k) W' (fun q => q < wr.heap.size) ((HS.out.ha.bound.below hW').mono (fun q hq => hq.2)) (by have := Kd.C_take (Kd.C_below HS.out.hp hW') (m := k) (by omega); exact this) (by have := HAL.out.2; omega) (AL_up 6 100000000 (by decide) _ _ (Nat.le_refl _) HAL.out.1)
            rw [hpx, List.length_take, Nat.min_eq_left (by omega)] at hh
            exact hh)
          have ba := below_alloc (Below.refl wr.heap.size wr) (.cells #[.int .i64 0, .int .i64 0, .string ⟨#[]⟩, .slice none 0 0, .string ⟨#[]⟩, .slice none 0 0] 26)
          have x0' := cellW x0 ba
          have x1' := cellW x1 ba
          have x2' := cellW x2 ba
          have x3' := cellW x3 ba
          have x4' := cellW x4 ba
          have x5' := cellW x5 ba
          clear ba
          have hd1 : Below wr.heap.size wr (wr.alloc (.cells #[.int .i64 0, .int .i64 0, .string ⟨#[]⟩, .slice none 0 0, .string ⟨#[]⟩, .slice none 0 0] 26)).drew := pw_below_drewN (below_alloc (Below.refl _ _) _) 1
          have hd2 : Below wr.heap.size wr (wr.drew.alloc (.cells #[.int .i64 0, .int .i64 0, .string ⟨#[]⟩, .slice none 0 0, .string ⟨#[]⟩, .slice none 0 0] 26)) := below_alloc (pw_below_drewN (Below.refl wr.heap.size wr) 1) _
          have hd3 : Below wr.heap.size wr wr.drew := pw_below_drewN (Below.refl wr.heap.size wr) 1
          have HZN := hide (heap_alloc_new wr (.cells #[.int .i64 0, .int .i64 0, .string ⟨#[]⟩, .slice none 0 0, .string ⟨#[]⟩, .slice none 0 0] 26))
          go_cut [17, 18] from 94 to 101 (fun vp vt wx => vt = .bool true ∧ Rel11 wr (fun _ => True) ⟨px0, px1, px2, px3, px4, px5⟩ [] vp (.slice none 0 0) wx)
          case first =>
            go_region_with (first
              | (go_at_call 15; (with_reducible refine (HAT.out ((wr.alloc (.cells #[.int .i64 0, .int .i64 0, .string ⟨#[]⟩, .slice none 0 0, .string ⟨#[]⟩, .slice none 0 0] 26)).drew) hd1).mono ?_); rintro e wu ⟨v, rfl, hT, hBu⟩; obtain ⟨N3, n3, N5, n5', rfl, -⟩ := hT.open_; have hZ := (hBu.block wr.heap.size (by simp [World.drew])).trans HZN.out; have p0 := cell_of_row _ _ 0 _ _ _ hZ; have o0 := blk_frozen hZ 0; have p1 := cell_of_row _ _ 1 _ _ _ hZ; have o1 := blk_frozen hZ 1; have p2 := cell_of_row _ _ 2 _ _ _ hZ; have o2 := blk_frozen hZ 2; have p3 := cell_of_row _ _ 3 _ _ _ hZ; have o3 := blk_frozen hZ 3; have p4 := cell_of_row _ _ 4 _ _ _ hZ; have o4 := blk_frozen hZ 4; have p5 := cell_of_row _ _ 5 _ _ _ hZ; have o5 := blk_frozen hZ 5; have HTB := hide hT; have HBB := hide (below_of_drewN (n := 1) hBu); clear hT hBu hZ)
              | (go_at_call 15; (with_reducible refine (HAT.out (wr.drew.alloc (.cells #[.int .i64 0, .int .i64 0, .string ⟨#[]⟩, .slice none 0 0, .string ⟨#[]⟩, .slice none 0 0] 26)) hd2).mono ?_); rintro e wu ⟨v, rfl, hT, hBu⟩; obtain ⟨N3, n3, N5, n5', rfl, -⟩ := hT.open_; have hZ := (hBu.block wr.heap.size (by simp [World.drew])).trans (heap_alloc_new wr.drew (.cells #[.int .i64 0, .int .i64 0, .string ⟨#[]⟩, .slice none 0 0, .string ⟨#[]⟩, .slice none 0 0] 26)); have p0 := cell_of_row _ _ 0 _ _ _ hZ; have o0 := blk_frozen hZ 0; have p1 := cell_of_row _ _ 1 _ _ _ hZ; have o1 := blk_frozen hZ 1; have p2 := cell_of_row _ _ 2 _ _ _ hZ; have o2 := blk_frozen hZ 2; have p3 := cell_of_row _ _ 3 _ _ _ hZ; have o3 := blk_frozen hZ 3; have p4 := cell_of_row _ _ 4 _ _ _ hZ; have o4 := blk_frozen hZ 4; have p5 := cell_of_row _ _ 5 _ _ _ hZ; have o5 := blk_frozen hZ 5; have HTB := hide hT; have HBB := hide (below_of_drewA (n := 1) hBu); clear hT hBu hZ)
              | (go_at_call 15; (with_reducible refine (HAT.out wr.drew hd3).mono ?_); rintro e wu ⟨v, rfl, hT, hBu⟩; obtain ⟨N3, n3, N5, n5', rfl, -⟩ := hT.open_; have HTA := hide hT; have HBA := hide (below_of_drewN (n := 1) hBu); clear hT hBu))
            all_goals (
              go_wp2_with fail
              go_meet
              refine ⟨rfl, ?_⟩
              first
              | (have h := HTA.out
                 have hb' := HBA.out
                 exact rel11A (y := ⟨px0, px1, px2, px3, px4, px5⟩) hb' (h.mono (fun _ _ => trivial)) (WF.nil _ _))
              | (have h := HTB.out
                 have hb' := HBB.out
                 exact rel11B (okk := fun q => q < wr.heap.size ∨ wr.heap.size + 1 ≤ q) (y := ⟨px0, px1, px2, px3, px4, px5⟩) (by simpa [World.drew] using hb') (h.mono (fun q hq => hq.imp id (fun h => by simpa [World.drew] using h))) (WF.nil _ _) (fun q hq => by omega) (fun _ _ => trivial)))
          case rest =>
            obtain ⟨rfl, P2, P3, e3, P5, e5, rfl, hP2, hTP, -, hP2g, hBc⟩ := hcut
            dsimp only at hP2 hTP
            have HS16 := hide (HS.out.step hBc)
            have HP16 := hide hP2
            have HTP16 := hide hTP
            have HCELL16 := hide (cellW HCELL.out hBc)
            obtain ⟨w16, hw16⟩ : ∃ v, v = wc := ⟨_, rfl⟩
            subst hw16
            clear hP2 hTP hP2g hBc HAT HZN hd1 hd2 hd3 HS HCELL
            clear x0 x0' x1 x1' x2 x2' x3 x3' x4 x4' x5 x5' z0 z1 z2 z3 z4 z5
            obtain ⟨z0, z1, z2, z3, z4, z5⟩ := cells6 HS16.out.hY
            go_upto_region 17 with fail
            have HAT := hide (show ∀ W' : World, Below w16.heap.size w16 W' → Calls Tryd.prog 15 #[.agg #[.int .i64 y0, .int .i64 y1, .string y2, .slice B3 y3.length d3, .string y4, .slice B5 y5.length d5], .slice (some aw) k cw] W' fun e w' => ∃ v, e = .returned (.tuple #[v, .bool true]) ∧ TF w' (fun q => q < w16.heap.size ∨ W'.heap.size ≤ q) v ⟨qx0, qx1, qx2, qx3, qx4, qx5⟩ ∧ Below W'.heap.size W' w' from fun W' hW' => by
              have hh := at_ ⟨y0, y1, y2, y3, y4, y5⟩ (.agg #[.int .i64 y0, .int .i64 y1, .string y2, .slice B3 y3.length d3, .string y4, .slice B5 y5.length d5]) (some aw) cw (p.take k) W' (fun q => q < w16.heap.size) ((HS16.out.hb.bound.below hW').mono (fun q hq => hq.2)) (by have := Kd.C_take (Kd.C_below HS16.out.hp hW') (m := k) (by omega); exact this) (by have := HALB.out.2; omega) (AL_up 6 100000000 (by decide) _ _ (Nat.le_refl _) HALB.out.1)
              rw [hqx, List.length_take, Nat.min_eq_left (by omega)] at hh
              exact hh)
            have ba := below_alloc (Below.refl w16.heap.size w16) (.cells #[.int .i64 0, .int .i64 0, .string ⟨#[]⟩, .slice none 0 0, .string ⟨#[]⟩, .slice none 0 0] 26)
            have z0' := cellW z0 ba
            have z1' := cellW z1 ba
            have z2' := cellW z2 ba
            have z3' := cellW z3 ba
            have z4' := cellW z4 ba
            have z5' := cellW z5 ba
            clear ba
            have hd1 : Below w16.heap.size w16 (w16.alloc (.cells #[.int .i64 0, .int .i64 0, .string ⟨#[]⟩, .slice none 0 0, .string ⟨#[]⟩, .slice none 0 0] 26)).drew := pw_below_drewN (below_alloc (Below.refl _ _) _) 1
            have hd2 : Below w16.heap.size w16 (w16.drew.alloc (.cells #[.int .i64 0, .int .i64 0, .string ⟨#[]⟩, .slice none 0 0, .string ⟨#[]⟩, .slice none 0 0] 26)) := below_alloc (pw_below_drewN (Below.refl w16.heap.size w16) 1) _
            have hd3 : Below w16.heap.size w16 w16.drew := pw_below_drewN (Below.refl w16.heap.size w16) 1
            have HZN := hide (heap_alloc_new w16 (.cells #[.int .i64 0, .int .i64 0, .string ⟨#[]⟩, .slice none 0 0, .string ⟨#[]⟩, .slice none 0 0] 26))
            go_cut [19, 20] from 102 to 109 (fun vp vt wx => vt = .bool true ∧ Rel11 w16 (fun _ => True) ⟨qx0, qx1, qx2, qx3, qx4, qx5⟩ [] vp (.slice none 0 0) wx)
            case first =>
              go_region_with (first
                | (go_at_call 15; (with_reducible refine (HAT.out ((w16.alloc (.cells #[.int .i64 0, .int .i64 0, .string ⟨#[]⟩, .slice none 0 0, .string ⟨#[]⟩, .slice none 0 0] 26)).drew) hd1).mono ?_); rintro e wu ⟨v, rfl, hT, hBu⟩; obtain ⟨N3, n3, N5, n5', rfl, -⟩ := hT.open_; have hZ := (hBu.block w16.heap.size (by simp [World.drew])).trans HZN.out; have p0 := cell_of_row _ _ 0 _ _ _ hZ; have o0 := blk_frozen hZ 0; have p1 := cell_of_row _ _ 1 _ _ _ hZ; have o1 := blk_frozen hZ 1; have p2 := cell_of_row _ _ 2 _ _ _ hZ; have o2 := blk_frozen hZ 2; have p3 := cell_of_row _ _ 3 _ _ _ hZ; have o3 := blk_frozen hZ 3; have p4 := cell_of_row _ _ 4 _ _ _ hZ; have o4 := blk_frozen hZ 4; have p5 := cell_of_row _ _ 5 _ _ _ hZ; have o5 := blk_frozen hZ 5; have HTB := hide hT; have HBB := hide (below_of_drewN (n := 1) hBu); clear hT hBu hZ)
                | (go_at_call 15; (with_reducible refine (HAT.out (w16.drew.alloc (.cells #[.int .i64 0, .int .i64 0, .string ⟨#[]⟩, .slice none 0 0, .string ⟨#[]⟩, .slice none 0 0] 26)) hd2).mono ?_); rintro e wu ⟨v, rfl, hT, hBu⟩; obtain ⟨N3, n3, N5, n5', rfl, -⟩ := hT.open_; have hZ := (hBu.block w16.heap.size (by simp [World.drew])).trans (heap_alloc_new w16.drew (.cells #[.int .i64 0, .int .i64 0, .string ⟨#[]⟩, .slice none 0 0, .string ⟨#[]⟩, .slice none 0 0] 26)); have p0 := cell_of_row _ _ 0 _ _ _ hZ; have o0 := blk_frozen hZ 0; have p1 := cell_of_row _ _ 1 _ _ _ hZ; have o1 := blk_frozen hZ 1; have p2 := cell_of_row _ _ 2 _ _ _ hZ; have o2 := blk_frozen hZ 2; have p3 := cell_of_row _ _ 3 _ _ _ hZ; have o3 := blk_frozen hZ 3; have p4 := cell_of_row _ _ 4 _ _ _ hZ; have o4 := blk_frozen hZ 4; have p5 := cell_of_row _ _ 5 _ _ _ hZ; have o5 := blk_frozen hZ 5; have HTB := hide hT; have HBB := hide (below_of_drewA (n := 1) hBu); clear hT hBu hZ)
                | (go_at_call 15; (with_reducible refine (HAT.out w16.drew hd3).mono ?_); rintro e wu ⟨v, rfl, hT, hBu⟩; obtain ⟨N3, n3, N5, n5', rfl, -⟩ := hT.open_; have HTA := hide hT; have HBA := hide (below_of_drewN (n := 1) hBu); clear hT hBu))
              all_goals (
                go_wp2_with fail
                go_meet
                refine ⟨rfl, ?_⟩
                first
                | (have h := HTA.out
                   have hb' := HBA.out
                   exact rel11A (y := ⟨qx0, qx1, qx2, qx3, qx4, qx5⟩) hb' (h.mono (fun _ _ => trivial)) (WF.nil _ _))
                | (have h := HTB.out
                   have hb' := HBB.out
                   exact rel11B (okk := fun q => q < w16.heap.size ∨ w16.heap.size + 1 ≤ q) (y := ⟨qx0, qx1, qx2, qx3, qx4, qx5⟩) (by simpa [World.drew] using hb') (h.mono (fun q hq => hq.imp id (fun h => by simpa [World.drew] using h))) (WF.nil _ _) (fun q hq => by omega) (fun _ _ => trivial)))
            case rest =>
              obtain ⟨rfl, Q2, Q3, f3, Q5, f5, rfl, hQ2, hTQ, -, hQ2g, hBc⟩ := hcut
              dsimp only at hQ2 hTQ
              have HS17 := hide (HS16.out.step hBc)
              have HCELL17 := hide (cellW HCELL16.out hBc)
              have HM17 := hide (show PathSt w P2 Q2 #[.int .i64 px0, .int .i64 px1, .string px2, .slice P3 px3.length e3, .string px4, .slice P5 px5.length e5] #[.int .i64 qx0, .int .i64 qx1, .string qx2, .slice Q3 qx3.length f3, .string qx4, .slice Q5 qx5.length f5] (some aw) p ⟨px0, px1, px2, px3, px4, px5⟩ ⟨qx0, qx1, qx2, qx3, qx4, qx5⟩ wc from ⟨(hBc.block _ (blk_lt HP16.out)).trans HP16.out, hQ2, HTP16.out.below hBc, hTQ, HS17.out.hp, HS17.out.hB⟩)
              obtain ⟨w17, hw17⟩ : ∃ v, v = wc := ⟨_, rfl⟩
              subst hw17
              clear hQ2 hTQ hQ2g hBc HAT HZN hd1 hd2 hd3 HS16 HP16 HTP16 HCELL16
              clear z0 z0' z1 z1' z2 z2' z3 z3' z4 z4' z5 z5'
              obtain ⟨x0, x1, x2, x3, x4, x5⟩ := cells6 HM17.out.hX
              obtain ⟨z0, z1, z2, z3, z4, z5⟩ := cells6 HM17.out.hY
              have HLAB := hide (clabelTV _ _ _ _ w17 HM17.out.ha.now HM17.out.hb.now (by have h9 := atL_AL 6 _ _ _ hpx HAL.out.1; rw [AL_eq] at h9; have h8 := h9.1; dsimp only at h8 ⊢; omega))
              rw [hlab] at HLAB
              clear hlab hpx hqx
              go_wp2_with fail
              (with_reducible refine HLAB.out.mono ?_)
              rintro e w18 ⟨rfl, hb18⟩
              dsimp only
              have HS18 := hide (HS17.out.step hb18)
              have HM18 := hide (HM17.out.step hb18)
              clear hb18 HS17 HM17 HLAB HCELL17
              clear x0 x1 x2 x3 x4 x5 z0 z1 z2 z3 z4 z5
              go_wp2_with fail
              go_loopw [21] (fun i wr => ∃ j : Nat, j ≤ kk ∧ i = .int .i64 (j : Int) ∧ Aside0 (PathSt w X Y #[.int .i64 a0, .int .i64 a1, .string a2, .slice A3 a3.length c3, .string a4, .slice A5 a5.length c5] #[.int .i64 y0, .int .i64 y1, .string y2, .slice B3 y3.length d3, .string y4, .slice B5 y5.length d5] (some aw) p ⟨a0, a1, a2, a3, a4, a5⟩ ⟨y0, y1, y2, y3, y4, y5⟩ wr ∧ PathSt w P2 Q2 #[.int .i64 px0, .int .i64 px1, .string px2, .slice P3 px3.length e3, .string px4, .slice P5 px5.length e5] #[.int .i64 qx0, .int .i64 qx1, .string qx2, .slice Q3 qx3.length f3, .string qx4, .slice Q5 qx5.length f5] (some aw) p ⟨px0, px1, px2, px3, px4, px5⟩ ⟨qx0, qx1, qx2, qx3, qx4, qx5⟩ wr)) (fun i _ => kk - (intOf i).toNat)
              case atStart => exact ⟨0, Nat.zero_le _, rfl, ⟨HS18.out, HM18.out⟩⟩
              case round =>
                clear HS18 HM18
                obtain ⟨j, hj, rfl, hrel⟩ := hrel
                have HS := hide hrel.out.1
                have HM := hide hrel.out.2
                clear hrel
                obtain ⟨aw', haw, hcw⟩ := ints_at HS.out.hp k HLT.out
                cases haw
                rw [hpk] at hcw
                obtain ⟨-, -, -, -, -, x5⟩ := cells6 HM.out.hX
                obtain ⟨-, -, -, -, -, z5⟩ := cells6 HM.out.hY
                have j0 : (0 : Int) ≤ (j : Int) := by omega
                by_cases hlj : j < kk
                · obtain ⟨hj1, hj2, hje⟩ := HKK.out j hlj
                  obtain ⟨_, _, _, _, e9, -, -, -, g5⟩ := HM.out.ha.open_
                  injection e9 with e9
                  injection e9 with e9
                  simp only [List.cons.injEq, Value.slice.injEq] at e9
                  obtain ⟨-, -, -, ⟨rfl, -, rfl⟩, -, ⟨rfl, -, rfl⟩, -⟩ := e9
                  obtain ⟨_, _, _, _, e9, -, -, -, g6⟩ := HM.out.hb.open_
                  injection e9 with e9
                  injection e9 with e9
                  simp only [List.cons.injEq, Value.slice.injEq] at e9
                  obtain ⟨-, -, -, ⟨rfl, -, rfl⟩, -, ⟨rfl, -, rfl⟩, -⟩ := e9
                  obtain ⟨ak, K3, m3, K5, m5, hak, g0_, g1_, g2_, g3_, g4_, g5_, hTk⟩ := kid_read g5 j hj1
                  subst hak
                  obtain ⟨bk, L3, n3, L5, n5, hbk, h0_, h1_, h2_, h3_, h4_, h5_, hTl⟩ := kid_read g6 j hj2
                  subst hbk
                  have hAk := ALK_getD 100000000 px5 j hj1 (by have h9 := atL_AL 100000000 _ _ _ HPA.out (AL_up 6 100000000 (by decide) _ _ (Nat.le_refl _) HAL.out.1); rw [AL_eq] at h9; exact h9.2)
                  have HC := hide (fun (W1 : World) (hb : Below wr.heap.size wr W1) => keepTree _ _ _ _ W1 (hTk.now.below hb) (hTl.now.below hb) hAk)
                  simp only [hje] at HC
                  obtain ⟨⟨kx0, kx1, kx2, kx3, kx4, kx5⟩, hkx⟩ : ∃ q, px5.getD j z26 = q := ⟨_, rfl⟩
                  obtain ⟨⟨ky0, ky1, ky2, ky3, ky4, ky5⟩, hky⟩ : ∃ q, qx5.getD j z26 = q := ⟨_, rfl⟩
                  rw [hkx] at HC g0_ g1_ g2_ g3_ g4_ g5_
                  rw [hky] at HC h0_ h1_ h2_ h3_ h4_ h5_
                  dsimp only at HC g0_ g1_ g2_ g3_ g4_ g5_ h0_ h1_ h2_ h3_ h4_ h5_
                  have hj9 : px5.length ≤ 9223372036854775807 := (Kd.F_now g5).2.1
                  have j1 : (j : Int) < (kk : Int) := by omega
                  have j2 : ¬ ((px5.length : Int) ≤ (j : Int)) := by omega
                  have j3 : ¬ ((qx5.length : Int) ≤ (j : Int)) := by omega
                  have j2' : ¬ (px5.length ≤ j) := by omega
                  have j3' : ¬ (qx5.length ≤ j) := by omega
                  have j4 : (j : Int) < (px5.length : Int) := by omega
                  have j5 : (j : Int) < (qx5.length : Int) := by omega
                  clear hkx hky hAk hTk hTl g5 g6 hje hj hlj
                  go_upto_region 23 with fail
                  have AS_ := hide (show ∀ W1 : World, Below wr.heap.size wr W1 → (W1.cell? ⟨P2, 5, none⟩ = some (.slice (some ak) px5.length e5) ∧ W1.cell? ⟨Q2, 5, none⟩ = some (.slice (some bk) qx5.length f5) ∧ W1.cell? (ak.add (j * 6)) = some (.int .i64 kx0) ∧ W1.cell? ⟨(ak.add (j * 6)).block, (ak.add (j * 6)).off + 1, none⟩ = some (.int .i64 kx1) ∧ W1.cell? ⟨(ak.add (j * 6)).block, (ak.add (j * 6)).off + 2, none⟩ = some (.string kx2) ∧ W1.cell? ⟨(ak.add (j * 6)).block, (ak.add (j * 6)).off + 3, none⟩ = some (.slice K3 kx3.length m3) ∧ W1.cell? ⟨(ak.add (j * 6)).block, (ak.add (j * 6)).off + 4, none⟩ = some (.string kx4) ∧ W1.cell? ⟨(ak.add (j * 6)).block, (ak.add (j * 6)).off + 5, none⟩ = some (.slice K5 kx5.length m5) ∧ W1.cell? (bk.add (j * 6)) = some (.int .i64 ky0) ∧ W1.cell? ⟨(bk.add (j * 6)).block, (bk.add (j * 6)).off + 1, none⟩ = some (.int .i64 ky1) ∧ W1.cell? ⟨(bk.add (j * 6)).block, (bk.add (j * 6)).off + 2, none⟩ = some (.string ky2) ∧ W1.cell? ⟨(bk.add (j * 6)).block, (bk.add (j * 6)).off + 3, none⟩ = some (.slice L3 ky3.length n3) ∧ W1.cell? ⟨(bk.add (j * 6)).block, (bk.add (j * 6)).off + 4, none⟩ = some (.string ky4) ∧ W1.cell? ⟨(bk.add (j * 6)).block, (bk.add (j * 6)).off + 5, none⟩ = some (.slice L5 ky5.length n5)) from fun W1 hb => ⟨cellW x5 hb, cellW z5 hb, cellW g0_ hb, cellW g1_ hb, cellW g2_ hb, cellW g3_ hb, cellW g4_ hb, cellW g5_ hb, cellW h0_ hb, cellW h1_ hb, cellW h2_ hb, cellW h3_ hb, cellW h4_ hb, cellW h5_ hb⟩)
                  have hdr : Below wr.heap.size wr wr.drew := below_drew (Below.refl _ _)
                  have hI : (fun W1 : World => (W1.cell? ⟨P2, 5, none⟩ = some (.slice (some ak) px5.length e5) ∧ W1.cell? ⟨Q2, 5, none⟩ = some (.slice (some bk) qx5.length f5) ∧ W1.cell? (ak.add (j * 6)) = some (.int .i64 kx0) ∧ W1.cell? ⟨(ak.add (j * 6)).block, (ak.add (j * 6)).off + 1, none⟩ = some (.int .i64 kx1) ∧ W1.cell? ⟨(ak.add (j * 6)).block, (ak.add (j * 6)).off + 2, none⟩ = some (.string kx2) ∧ W1.cell? ⟨(ak.add (j * 6)).block, (ak.add (j * 6)).off + 3, none⟩ = some (.slice K3 kx3.length m3) ∧ W1.cell? ⟨(ak.add (j * 6)).block, (ak.add (j * 6)).off + 4, none⟩ = some (.string kx4) ∧ W1.cell? ⟨(ak.add (j * 6)).block, (ak.add (j * 6)).off + 5, none⟩ = some (.slice K5 kx5.length m5) ∧ W1.cell? (bk.add (j * 6)) = some (.int .i64 ky0) ∧ W1.cell? ⟨(bk.add (j * 6)).block, (bk.add (j * 6)).off + 1, none⟩ = some (.int .i64 ky1) ∧ W1.cell? ⟨(bk.add (j * 6)).block, (bk.add (j * 6)).off + 2, none⟩ = some (.string ky2) ∧ W1.cell? ⟨(bk.add (j * 6)).block, (bk.add (j * 6)).off + 3, none⟩ = some (.slice L3 ky3.length n3) ∧ W1.cell? ⟨(bk.add (j * 6)).block, (bk.add (j * 6)).off + 4, none⟩ = some (.string ky4) ∧ W1.cell? ⟨(bk.add (j * 6)).block, (bk.add (j * 6)).off + 5, none⟩ = some (.slice L5 ky5.length n5)) ∧ Below wr.heap.size wr W1) wr.drew := ⟨AS_.out _ hdr, hdr⟩
                  clear hdr g0_ g1_ g2_ g3_ g4_ g5_ h0_ h1_ h2_ h3_ h4_ h5_ x5 z5
                  first
                  | go_region_held3 (fun W1 => (W1.cell? ⟨P2, 5, none⟩ = some (.slice (some ak) px5.length e5) ∧ W1.cell? ⟨Q2, 5, none⟩ = some (.slice (some bk) qx5.length f5) ∧ W1.cell? (ak.add (j * 6)) = some (.int .i64 kx0) ∧ W1.cell? ⟨(ak.add (j * 6)).block, (ak.add (j * 6)).off + 1, none⟩ = some (.int .i64 kx1) ∧ W1.cell? ⟨(ak.add (j * 6)).block, (ak.add (j * 6)).off + 2, none⟩ = some (.string kx2) ∧ W1.cell? ⟨(ak.add (j * 6)).block, (ak.add (j * 6)).off + 3, none⟩ = some (.slice K3 kx3.length m3) ∧ W1.cell? ⟨(ak.add (j * 6)).block, (ak.add (j * 6)).off + 4, none⟩ = some (.string kx4) ∧ W1.cell? ⟨(ak.add (j * 6)).block, (ak.add (j * 6)).off + 5, none⟩ = some (.slice K5 kx5.length m5) ∧ W1.cell? (bk.add (j * 6)) = some (.int .i64 ky0) ∧ W1.cell? ⟨(bk.add (j * 6)).block, (bk.add (j * 6)).off + 1, none⟩ = some (.int .i64 ky1) ∧ W1.cell? ⟨(bk.add (j * 6)).block, (bk.add (j * 6)).off + 2, none⟩ = some (.string ky2) ∧ W1.cell? ⟨(bk.add (j * 6)).block, (bk.add (j * 6)).off + 3, none⟩ = some (.slice L3 ky3.length n3) ∧ W1.cell? ⟨(bk.add (j * 6)).block, (bk.add (j * 6)).off + 4, none⟩ = some (.string ky4) ∧ W1.cell? ⟨(bk.add (j * 6)).block, (bk.add (j * 6)).off + 5, none⟩ = some (.slice L5 ky5.length n5)) ∧ Below wr.heap.size wr W1)
                      (first | exact hI | ((try go_split_ands); exact ⟨AS_.out _ (below_step (by assumption) bN), below_step (by assumption) bN⟩) | go_keep)
                      (first | (go_at_call 19; (try go_split_ands); (with_reducible refine (HC.out _ (by assumption)).mono ?_); rintro e wn ⟨rfl, bN⟩))
                  | fail
                  (try go_split_ands)
                  go_wp2_with fail
                  go_roundw
                  case rel => exact ⟨j + 1, by omega, by go_num, ⟨HS.out.step (by assumption), HM.out.step (by assumption)⟩⟩
                  case measure => simp [intOf]; omega
                · have hpl : p.length ≤ 9223372036854775807 := by have := HPL.out; omega
                  have j1 : ¬ (j : Int) < (kk : Int) := by omega
                  clear x5 z5
                  go_wp2_with fail
                  go_roundw
                  case rel => exact ⟨k + 1, by have := HLT.out; omega, by go_num, ⟨HS.out⟩⟩
                  case measure => simp [intOf]; have := HLT.out; omega
        · have k1 : ¬ (k : Int) < (p.length : Int) := by omega
          have HD2 := hide (diffTV 6 _ _ _ _ wr HS.out.hb.now HS.out.ha.now (by decide) HALB.out.1 HAL.out.1 (by have := HAL.out.2; have := HALB.out.2; omega))
          rw [dif_symm, HDD.out] at HD2
          go_wp2_with fail
          (with_reducible refine HD2.out.mono ?_)
          rintro e w30 ⟨vv, rfl, hR, hB30⟩
          obtain ⟨Av, cv, rfl, hcv, hCv⟩ := Kd.R_reads hR
          dsimp only [resD] at hcv hCv ⊢
          have HS30 := hide (HS.out.step hB30)
          have HCV := hide hCv
          have hcl := hcv
          clear hR hB30 HD2 HS hCv
          clear x0 x1 x2 x3 x4 x5 z0 z1 z2 z3 z4 z5
          go_wp2_with fail
          (with_reducible refine (arbourbook_Same_int.calls (p.length + 1) Av cv p Aw cw p true w30 HCV.out hcl HS30.out.hp HCWL.out (sameInts p (by have := HPL.out; omega))).mono ?_)
          rintro e w31 ⟨rfl, dN⟩
          dsimp only
          have HS31 := hide (HS30.out.step (Drawn0.below dN))
          clear dN HS30 HCV
          go_wp2_with fail
          (with_reducible refine (known w31).mono ?_)
          rintro e w32 ⟨rfl, hb32⟩
          dsimp only
          have HF := hide (below_step HS31.out.hB hb32)
          clear hb32 HS31
          go_wp2_with fail
          go_ret
          exact ⟨rfl, HF.out⟩
    · obtain ⟨xx, rfl⟩ := Option.isSome_iff_exists.1 h2
      have HS13 := hide HS12.out
      clear HS12 HPE HTp12 HTq12 HG12 HH12 hr hs hRa h2
      clear x0 x1 x2 x3 x4 x5 z0 z1 z2 z3 z4 z5
      dsimp only [Option.isSome]
      go_wp2_with fail
      go_loopw [16, 17, 18, 19, 20, 21] (fun n _ _ _ _ _ wr => ∃ k : Nat, k ≤ p.length ∧ n = .int .i64 (k : Int) ∧ Aside0 (PathSt w X Y #[.int .i64 a0, .int .i64 a1, .string a2, .slice A3 a3.length c3, .string a4, .slice A5 a5.length c5] #[.int .i64 y0, .int .i64 y1, .string y2, .slice B3 y3.length d3, .string y4, .slice B5 y5.length d5] Aw p ⟨a0, a1, a2, a3, a4, a5⟩ ⟨y0, y1, y2, y3, y4, y5⟩ wr)) (fun n _ _ _ _ _ _ => p.length - (intOf n).toNat)
      case atStart => exact ⟨0, Nat.zero_le _, rfl, ⟨HS13.out⟩⟩
      case round =>
        clear HS13
        obtain ⟨k, hk, rfl, hrel⟩ := hrel
        have HS := hide hrel.out
        clear hrel
        obtain ⟨x0, x1, x2, x3, x4, x5⟩ := cells6 HS.out.hX
        obtain ⟨z0, z1, z2, z3, z4, z5⟩ := cells6 HS.out.hY
        by_cases hlt : k < p.length
        · obtain ⟨⟨px0, px1, px2, px3, px4, px5⟩, ⟨qx0, qx1, qx2, qx3, qx4, qx5⟩, kk, hpx, hqx, hlab, hpk, hkk⟩ := path_mid p _ _ HDD.out k hlt
          obtain ⟨aw, haw, hcw⟩ := ints_at HS.out.hp k hlt
          rw [hpk] at hcw
          subst haw
          have HCELL := hide hcw
          have HKK := hide hkk
          have HLT := hide hlt
          have HPA := hide hpx
          clear hcw hkk
          have k1 : (k : Int) < (p.length : Int) := by omega
          have k0 : (0 : Int) ≤ (k : Int) := by omega
          have k2 : (k : Int) ≤ (p.length : Int) := by omega
          obtain ⟨i3, hi3, hs3⟩ : ∃ i, Tryd.prog.info? 3 = some i ∧ i.size = 1 := by
            obtain ⟨i0, hi, hzz⟩ := Option.map_eq_some_iff.1 info3
            simp only [Prod.mk.injEq] at hzz
            exact ⟨i0, hi, hzz.2.1⟩
          have q1 := cut_to (P := Tryd.prog) 31 3 .i64 Tryd.underlying31 hi3 (some aw) p.length cw (k : Int) (by omega) (by omega) HCWL.out
          rw [Int.toNat_natCast] at q1
          clear hi3 hs3
          go_upto_region 16 with fail
          have HAT := hide (show ∀ W' : World, Below wr.heap.size wr W' → Calls Tryd.prog 15 #[.agg #[.int .i64 a0, .int .i64 a1, .string a2, .slice A3 a3.length c3, .string a4, .slice A5 a5.length c5], .slice (some aw) k cw] W' fun e w' => ∃ v, e = .returned (.tuple #[v, .bool true]) ∧ TF w' (fun q => q < wr.heap.size ∨ W'.heap.size ≤ q) v ⟨px0, px1, px2, px3, px4, px5⟩ ∧ Below W'.heap.size W' w' from fun W' hW' => by
            have hh := at_ ⟨a0, a1, a2, a3, a4, a5⟩ (.agg #[.int .i64 a0, .int .i64 a1, .string a2, .slice A3 a3.length c3, .string a4, .slice A5 a5.length c5]) (some aw) cw (p.take k) W' (fun q => q < wr.heap.size) ((HS.out.ha.bound.below hW').mono (fun q hq => hq.2)) (by have := Kd.C_take (Kd.C_below HS.out.hp hW') (m := k) (by omega); exact this) (by have := HAL.out.2; omega) (AL_up 6 100000000 (by decide) _ _ (Nat.le_refl _) HAL.out.1)
            rw [hpx, List.length_take, Nat.min_eq_left (by omega)] at hh
            exact hh)
          have ba := below_alloc (Below.refl wr.heap.size wr) (.cells #[.int .i64 0, .int .i64 0, .string ⟨#[]⟩, .slice none 0 0, .string ⟨#[]⟩, .slice none 0 0] 26)
          have x0' := cellW x0 ba
          have x1' := cellW x1 ba
          have x2' := cellW x2 ba
          have x3' := cellW x3 ba
          have x4' := cellW x4 ba
          have x5' := cellW x5 ba
          clear ba
          have hd1 : Below wr.heap.size wr (wr.alloc (.cells #[.int .i64 0, .int .i64 0, .string ⟨#[]⟩, .slice none 0 0, .string ⟨#[]⟩, .slice none 0 0] 26)).drew := pw_below_drewN (below_alloc (Below.refl _ _) _) 1
          have hd2 : Below wr.heap.size wr (wr.drew.alloc (.cells #[.int .i64 0, .int .i64 0, .string ⟨#[]⟩, .slice none 0 0, .string ⟨#[]⟩, .slice none 0 0] 26)) := below_alloc (pw_below_drewN (Below.refl wr.heap.size wr) 1) _
          have hd3 : Below wr.heap.size wr wr.drew := pw_below_drewN (Below.refl wr.heap.size wr) 1
          have HZN := hide (heap_alloc_new wr (.cells #[.int .i64 0, .int .i64 0, .string ⟨#[]⟩, .slice none 0 0, .string ⟨#[]⟩, .slice none 0 0] 26))
          go_cut [17, 18] from 94 to 101 (fun vp vt wx => vt = .bool true ∧ Rel11 wr (fun _ => True) ⟨px0, px1, px2, px3, px4, px5⟩ [] vp (.slice none 0 0) wx)
          case first =>
            go_region_with (first
              | (go_at_call 15; (with_reducible refine (HAT.out ((wr.alloc (.cells #[.int .i64 0, .int .i64 0, .string ⟨#[]⟩, .slice none 0 0, .string ⟨#[]⟩, .slice none 0 0] 26)).drew) hd1).mono ?_); rintro e wu ⟨v, rfl, hT, hBu⟩; obtain ⟨N3, n3, N5, n5', rfl, -⟩ := hT.open_; have hZ := (hBu.block wr.heap.size (by simp [World.drew])).trans HZN.out; have p0 := cell_of_row _ _ 0 _ _ _ hZ; have o0 := blk_frozen hZ 0; have p1 := cell_of_row _ _ 1 _ _ _ hZ; have o1 := blk_frozen hZ 1; have p2 := cell_of_row _ _ 2 _ _ _ hZ; have o2 := blk_frozen hZ 2; have p3 := cell_of_row _ _ 3 _ _ _ hZ; have o3 := blk_frozen hZ 3; have p4 := cell_of_row _ _ 4 _ _ _ hZ; have o4 := blk_frozen hZ 4; have p5 := cell_of_row _ _ 5 _ _ _ hZ; have o5 := blk_frozen hZ 5; have HTB := hide hT; have HBB := hide (below_of_drewN (n := 1) hBu); clear hT hBu hZ)
              | (go_at_call 15; (with_reducible refine (HAT.out (wr.drew.alloc (.cells #[.int .i64 0, .int .i64 0, .string ⟨#[]⟩, .slice none 0 0, .string ⟨#[]⟩, .slice none 0 0] 26)) hd2).mono ?_); rintro e wu ⟨v, rfl, hT, hBu⟩; obtain ⟨N3, n3, N5, n5', rfl, -⟩ := hT.open_; have hZ := (hBu.block wr.heap.size (by simp [World.drew])).trans (heap_alloc_new wr.drew (.cells #[.int .i64 0, .int .i64 0, .string ⟨#[]⟩, .slice none 0 0, .string ⟨#[]⟩, .slice none 0 0] 26)); have p0 := cell_of_row _ _ 0 _ _ _ hZ; have o0 := blk_frozen hZ 0; have p1 := cell_of_row _ _ 1 _ _ _ hZ; have o1 := blk_frozen hZ 1; have p2 := cell_of_row _ _ 2 _ _ _ hZ; have o2 := blk_frozen hZ 2; have p3 := cell_of_row _ _ 3 _ _ _ hZ; have o3 := blk_frozen hZ 3; have p4 := cell_of_row _ _ 4 _ _ _ hZ; have o4 := blk_frozen hZ 4; have p5 := cell_of_row _ _ 5 _ _ _ hZ; have o5 := blk_frozen hZ 5; have HTB := hide hT; have HBB := hide (below_of_drewA (n := 1) hBu); clear hT hBu hZ)
              | (go_at_call 15; (with_reducible refine (HAT.out wr.drew hd3).mono ?_); rintro e wu ⟨v, rfl, hT, hBu⟩; obtain ⟨N3, n3, N5, n5', rfl, -⟩ := hT.open_; have HTA := hide hT; have HBA := hide (below_of_drewN (n := 1) hBu); clear hT hBu))
            all_goals (
              go_wp2_with fail
              go_meet
              refine ⟨rfl, ?_⟩
              first
              | (have h := HTA.out
                 have hb' := HBA.out
                 exact rel11A (y := ⟨px0, px1, px2, px3, px4, px5⟩) hb' (h.mono (fun _ _ => trivial)) (WF.nil _ _))
              | (have h := HTB.out
                 have hb' := HBB.out
                 exact rel11B (okk := fun q => q < wr.heap.size ∨ wr.heap.size + 1 ≤ q) (y := ⟨px0, px1, px2, px3, px4, px5⟩) (by simpa [World.drew] using hb') (h.mono (fun q hq => hq.imp id (fun h => by simpa [World.drew] using h))) (WF.nil _ _) (fun q hq => by omega) (fun _ _ => trivial)))
          case rest =>
            obtain ⟨rfl, P2, P3, e3, P5, e5, rfl, hP2, hTP, -, hP2g, hBc⟩ := hcut
            dsimp only at hP2 hTP
            have HS16 := hide (HS.out.step hBc)
            have HP16 := hide hP2
            have HTP16 := hide hTP
            have HCELL16 := hide (cellW HCELL.out hBc)
            obtain ⟨w16, hw16⟩ : ∃ v, v = wc := ⟨_, rfl⟩
            subst hw16
            clear hP2 hTP hP2g hBc HAT HZN hd1 hd2 hd3 HS HCELL
            clear x0 x0' x1 x1' x2 x2' x3 x3' x4 x4' x5 x5' z0 z1 z2 z3 z4 z5
            obtain ⟨z0, z1, z2, z3, z4, z5⟩ := cells6 HS16.out.hY
            go_upto_region 17 with fail
            have HAT := hide (show ∀ W' : World, Below w16.heap.size w16 W' → Calls Tryd.prog 15 #[.agg #[.int .i64 y0, .int .i64 y1, .string y2, .slice B3 y3.length d3, .string y4, .slice B5 y5.length d5], .slice (some aw) k cw] W' fun e w' => ∃ v, e = .returned (.tuple #[v, .bool true]) ∧ TF w' (fun q => q < w16.heap.size ∨ W'.heap.size ≤ q) v ⟨qx0, qx1, qx2, qx3, qx4, qx5⟩ ∧ Below W'.heap.size W' w' from fun W' hW' => by
              have hh := at_ ⟨y0, y1, y2, y3, y4, y5⟩ (.agg #[.int .i64 y0, .int .i64 y1, .string y2, .slice B3 y3.length d3, .string y4, .slice B5 y5.length d5]) (some aw) cw (p.take k) W' (fun q => q < w16.heap.size) ((HS16.out.hb.bound.below hW').mono (fun q hq => hq.2)) (by have := Kd.C_take (Kd.C_below HS16.out.hp hW') (m := k) (by omega); exact this) (by have := HALB.out.2; omega) (AL_up 6 100000000 (by decide) _ _ (Nat.le_refl _) HALB.out.1)
              rw [hqx, List.length_take, Nat.min_eq_left (by omega)] at hh
              exact hh)
            have ba := below_alloc (Below.refl w16.heap.size w16) (.cells #[.int .i64 0, .int .i64 0, .string ⟨#[]⟩, .slice none 0 0, .string ⟨#[]⟩, .slice none 0 0] 26)
            have z0' := cellW z0 ba
            have z1' := cellW z1 ba
            have z2' := cellW z2 ba
            have z3' := cellW z3 ba
            have z4' := cellW z4 ba
            have z5' := cellW z5 ba
            clear ba
            have hd1 : Below w16.heap.size w16 (w16.alloc (.cells #[.int .i64 0, .int .i64 0, .string ⟨#[]⟩, .slice none 0 0, .string ⟨#[]⟩, .slice none 0 0] 26)).drew := pw_below_drewN (below_alloc (Below.refl _ _) _) 1
            have hd2 : Below w16.heap.size w16 (w16.drew.alloc (.cells #[.int .i64 0, .int .i64 0, .string ⟨#[]⟩, .slice none 0 0, .string ⟨#[]⟩, .slice none 0 0] 26)) := below_alloc (pw_below_drewN (Below.refl w16.heap.size w16) 1) _
            have hd3 : Below w16.heap.size w16 w16.drew := pw_below_drewN (Below.refl w16.heap.size w16) 1
            have HZN := hide (heap_alloc_new w16 (.cells #[.int .i64 0, .int .i64 0, .string ⟨#[]⟩, .slice none 0 0, .string ⟨#[]⟩, .slice none 0 0] 26))
            go_cut [19, 20] from 102 to 109 (fun vp vt wx => vt = .bool true ∧ Rel11 w16 (fun _ => True) ⟨qx0, qx1, qx2, qx3, qx4, qx5⟩ [] vp (.slice none 0 0) wx)
            case first =>
              go_region_with (first
                | (go_at_call 15; (with_reducible refine (HAT.out ((w16.alloc (.cells #[.int .i64 0, .int .i64 0, .string ⟨#[]⟩, .slice none 0 0, .string ⟨#[]⟩, .slice none 0 0] 26)).drew) hd1).mono ?_); rintro e wu ⟨v, rfl, hT, hBu⟩; obtain ⟨N3, n3, N5, n5', rfl, -⟩ := hT.open_; have hZ := (hBu.block w16.heap.size (by simp [World.drew])).trans HZN.out; have p0 := cell_of_row _ _ 0 _ _ _ hZ; have o0 := blk_frozen hZ 0; have p1 := cell_of_row _ _ 1 _ _ _ hZ; have o1 := blk_frozen hZ 1; have p2 := cell_of_row _ _ 2 _ _ _ hZ; have o2 := blk_frozen hZ 2; have p3 := cell_of_row _ _ 3 _ _ _ hZ; have o3 := blk_frozen hZ 3; have p4 := cell_of_row _ _ 4 _ _ _ hZ; have o4 := blk_frozen hZ 4; have p5 := cell_of_row _ _ 5 _ _ _ hZ; have o5 := blk_frozen hZ 5; have HTB := hide hT; have HBB := hide (below_of_drewN (n := 1) hBu); clear hT hBu hZ)
                | (go_at_call 15; (with_reducible refine (HAT.out (w16.drew.alloc (.cells #[.int .i64 0, .int .i64 0, .string ⟨#[]⟩, .slice none 0 0, .string ⟨#[]⟩, .slice none 0 0] 26)) hd2).mono ?_); rintro e wu ⟨v, rfl, hT, hBu⟩; obtain ⟨N3, n3, N5, n5', rfl, -⟩ := hT.open_; have hZ := (hBu.block w16.heap.size (by simp [World.drew])).trans (heap_alloc_new w16.drew (.cells #[.int .i64 0, .int .i64 0, .string ⟨#[]⟩, .slice none 0 0, .string ⟨#[]⟩, .slice none 0 0] 26)); have p0 := cell_of_row _ _ 0 _ _ _ hZ; have o0 := blk_frozen hZ 0; have p1 := cell_of_row _ _ 1 _ _ _ hZ; have o1 := blk_frozen hZ 1; have p2 := cell_of_row _ _ 2 _ _ _ hZ; have o2 := blk_frozen hZ 2; have p3 := cell_of_row _ _ 3 _ _ _ hZ; have o3 := blk_frozen hZ 3; have p4 := cell_of_row _ _ 4 _ _ _ hZ; have o4 := blk_frozen hZ 4; have p5 := cell_of_row _ _ 5 _ _ _ hZ; have o5 := blk_frozen hZ 5; have HTB := hide hT; have HBB := hide (below_of_drewA (n := 1) hBu); clear hT hBu hZ)
                | (go_at_call 15; (with_reducible refine (HAT.out w16.drew hd3).mono ?_); rintro e wu ⟨v, rfl, hT, hBu⟩; obtain ⟨N3, n3, N5, n5', rfl, -⟩ := hT.open_; have HTA := hide hT; have HBA := hide (below_of_drewN (n := 1) hBu); clear hT hBu))
              all_goals (
                go_wp2_with fail
                go_meet
                refine ⟨rfl, ?_⟩
                first
                | (have h := HTA.out
                   have hb' := HBA.out
                   exact rel11A (y := ⟨qx0, qx1, qx2, qx3, qx4, qx5⟩) hb' (h.mono (fun _ _ => trivial)) (WF.nil _ _))
                | (have h := HTB.out
                   have hb' := HBB.out
                   exact rel11B (okk := fun q => q < w16.heap.size ∨ w16.heap.size + 1 ≤ q) (y := ⟨qx0, qx1, qx2, qx3, qx4, qx5⟩) (by simpa [World.drew] using hb') (h.mono (fun q hq => hq.imp id (fun h => by simpa [World.drew] using h))) (WF.nil _ _) (fun q hq => by omega) (fun _ _ => trivial)))
            case rest =>
              obtain ⟨rfl, Q2, Q3, f3, Q5, f5, rfl, hQ2, hTQ, -, hQ2g, hBc⟩ := hcut
              dsimp only at hQ2 hTQ
              have HS17 := hide (HS16.out.step hBc)
              have HCELL17 := hide (cellW HCELL16.out hBc)
              have HM17 := hide (show PathSt w P2 Q2 #[.int .i64 px0, .int .i64 px1, .string px2, .slice P3 px3.length e3, .string px4, .slice P5 px5.length e5] #[.int .i64 qx0, .int .i64 qx1, .string qx2, .slice Q3 qx3.length f3, .string qx4, .slice Q5 qx5.length f5] (some aw) p ⟨px0, px1, px2, px3, px4, px5⟩ ⟨qx0, qx1, qx2, qx3, qx4, qx5⟩ wc from ⟨(hBc.block _ (blk_lt HP16.out)).trans HP16.out, hQ2, HTP16.out.below hBc, hTQ, HS17.out.hp, HS17.out.hB⟩)
              obtain ⟨w17, hw17⟩ : ∃ v, v = wc := ⟨_, rfl⟩
              subst hw17
              clear hQ2 hTQ hQ2g hBc HAT HZN hd1 hd2 hd3 HS16 HP16 HTP16 HCELL16
              clear z0 z0' z1 z1' z2 z2' z3 z3' z4 z4' z5 z5'
              obtain ⟨x0, x1, x2, x3, x4, x5⟩ := cells6 HM17.out.hX
              obtain ⟨z0, z1, z2, z3, z4, z5⟩ := cells6 HM17.out.hY
              have HLAB := hide (clabelTV _ _ _ _ w17 HM17.out.ha.now HM17.out.hb.now (by have h9 := atL_AL 6 _ _ _ hpx HAL.out.1; rw [AL_eq] at h9; have h8 := h9.1; dsimp only at h8 ⊢; omega))
              rw [hlab] at HLAB
              clear hlab hpx hqx
              go_wp2_with fail
              (with_reducible refine HLAB.out.mono ?_)
              rintro e w18 ⟨rfl, hb18⟩
              dsimp only
              have HS18 := hide (HS17.out.step hb18)
              have HM18 := hide (HM17.out.step hb18)
              clear hb18 HS17 HM17 HLAB HCELL17
              clear x0 x1 x2 x3 x4 x5 z0 z1 z2 z3 z4 z5
              go_wp2_with fail
              go_loopw [21] (fun i wr => ∃ j : Nat, j ≤ kk ∧ i = .int .i64 (j : Int) ∧ Aside0 (PathSt w X Y #[.int .i64 a0, .int .i64 a1, .string a2, .slice A3 a3.length c3, .string a4, .slice A5 a5.length c5] #[.int .i64 y0, .int .i64 y1, .string y2, .slice B3 y3.length d3, .string y4, .slice B5 y5.length d5] (some aw) p ⟨a0, a1, a2, a3, a4, a5⟩ ⟨y0, y1, y2, y3, y4, y5⟩ wr ∧ PathSt w P2 Q2 #[.int .i64 px0, .int .i64 px1, .string px2, .slice P3 px3.length e3, .string px4, .slice P5 px5.length e5] #[.int .i64 qx0, .int .i64 qx1, .string qx2, .slice Q3 qx3.length f3, .string qx4, .slice Q5 qx5.length f5] (some aw) p ⟨px0, px1, px2, px3, px4, px5⟩ ⟨qx0, qx1, qx2, qx3, qx4, qx5⟩ wr)) (fun i _ => kk - (intOf i).toNat)
              case atStart => exact ⟨0, Nat.zero_le _, rfl, ⟨HS18.out, HM18.out⟩⟩
              case round =>
                clear HS18 HM18
                obtain ⟨j, hj, rfl, hrel⟩ := hrel
                have HS := hide hrel.out.1
                have HM := hide hrel.out.2
                clear hrel
                obtain ⟨aw', haw, hcw⟩ := ints_at HS.out.hp k HLT.out
                cases haw
                rw [hpk] at hcw
                obtain ⟨-, -, -, -, -, x5⟩ := cells6 HM.out.hX
                obtain ⟨-, -, -, -, -, z5⟩ := cells6 HM.out.hY
                have j0 : (0 : Int) ≤ (j : Int) := by omega
                by_cases hlj : j < kk
                · obtain ⟨hj1, hj2, hje⟩ := HKK.out j hlj
                  obtain ⟨_, _, _, _, e9, -, -, -, g5⟩ := HM.out.ha.open_
                  injection e9 with e9
                  injection e9 with e9
                  simp only [List.cons.injEq, Value.slice.injEq] at e9
                  obtain ⟨-, -, -, ⟨rfl, -, rfl⟩, -, ⟨rfl, -, rfl⟩, -⟩ := e9
                  obtain ⟨_, _, _, _, e9, -, -, -, g6⟩ := HM.out.hb.open_
                  injection e9 with e9
                  injection e9 with e9
                  simp only [List.cons.injEq, Value.slice.injEq] at e9
                  obtain ⟨-, -, -, ⟨rfl, -, rfl⟩, -, ⟨rfl, -, rfl⟩, -⟩ := e9
                  obtain ⟨ak, K3, m3, K5, m5, hak, g0_, g1_, g2_, g3_, g4_, g5_, hTk⟩ := kid_read g5 j hj1
                  subst hak
                  obtain ⟨bk, L3, n3, L5, n5, hbk, h0_, h1_, h2_, h3_, h4_, h5_, hTl⟩ := kid_read g6 j hj2
                  subst hbk
                  have hAk := ALK_getD 100000000 px5 j hj1 (by have h9 := atL_AL 100000000 _ _ _ HPA.out (AL_up 6 100000000 (by decide) _ _ (Nat.le_refl _) HAL.out.1); rw [AL_eq] at h9; exact h9.2)
                  have HC := hide (fun (W1 : World) (hb : Below wr.heap.size wr W1) => keepTree _ _ _ _ W1 (hTk.now.below hb) (hTl.now.below hb) hAk)
                  simp only [hje] at HC
                  obtain ⟨⟨kx0, kx1, kx2, kx3, kx4, kx5⟩, hkx⟩ : ∃ q, px5.getD j z26 = q := ⟨_, rfl⟩
                  obtain ⟨⟨ky0, ky1, ky2, ky3, ky4, ky5⟩, hky⟩ : ∃ q, qx5.getD j z26 = q := ⟨_, rfl⟩
                  rw [hkx] at HC g0_ g1_ g2_ g3_ g4_ g5_
                  rw [hky] at HC h0_ h1_ h2_ h3_ h4_ h5_
                  dsimp only at HC g0_ g1_ g2_ g3_ g4_ g5_ h0_ h1_ h2_ h3_ h4_ h5_
                  have hj9 : px5.length ≤ 9223372036854775807 := (Kd.F_now g5).2.1
                  have j1 : (j : Int) < (kk : Int) := by omega
                  have j2 : ¬ ((px5.length : Int) ≤ (j : Int)) := by omega
                  have j3 : ¬ ((qx5.length : Int) ≤ (j : Int)) := by omega
                  have j2' : ¬ (px5.length ≤ j) := by omega
                  have j3' : ¬ (qx5.length ≤ j) := by omega
                  have j4 : (j : Int) < (px5.length : Int) := by omega
                  have j5 : (j : Int) < (qx5.length : Int) := by omega
                  clear hkx hky hAk hTk hTl g5 g6 hje hj hlj
                  go_upto_region 23 with fail
                  have AS_ := hide (show ∀ W1 : World, Below wr.heap.size wr W1 → (W1.cell? ⟨P2, 5, none⟩ = some (.slice (some ak) px5.length e5) ∧ W1.cell? ⟨Q2, 5, none⟩ = some (.slice (some bk) qx5.length f5) ∧ W1.cell? (ak.add (j * 6)) = some (.int .i64 kx0) ∧ W1.cell? ⟨(ak.add (j * 6)).block, (ak.add (j * 6)).off + 1, none⟩ = some (.int .i64 kx1) ∧ W1.cell? ⟨(ak.add (j * 6)).block, (ak.add (j * 6)).off + 2, none⟩ = some (.string kx2) ∧ W1.cell? ⟨(ak.add (j * 6)).block, (ak.add (j * 6)).off + 3, none⟩ = some (.slice K3 kx3.length m3) ∧ W1.cell? ⟨(ak.add (j * 6)).block, (ak.add (j * 6)).off + 4, none⟩ = some (.string kx4) ∧ W1.cell? ⟨(ak.add (j * 6)).block, (ak.add (j * 6)).off + 5, none⟩ = some (.slice K5 kx5.length m5) ∧ W1.cell? (bk.add (j * 6)) = some (.int .i64 ky0) ∧ W1.cell? ⟨(bk.add (j * 6)).block, (bk.add (j * 6)).off + 1, none⟩ = some (.int .i64 ky1) ∧ W1.cell? ⟨(bk.add (j * 6)).block, (bk.add (j * 6)).off + 2, none⟩ = some (.string ky2) ∧ W1.cell? ⟨(bk.add (j * 6)).block, (bk.add (j * 6)).off + 3, none⟩ = some (.slice L3 ky3.length n3) ∧ W1.cell? ⟨(bk.add (j * 6)).block, (bk.add (j * 6)).off + 4, none⟩ = some (.string ky4) ∧ W1.cell? ⟨(bk.add (j * 6)).block, (bk.add (j * 6)).off + 5, none⟩ = some (.slice L5 ky5.length n5)) from fun W1 hb => ⟨cellW x5 hb, cellW z5 hb, cellW g0_ hb, cellW g1_ hb, cellW g2_ hb, cellW g3_ hb, cellW g4_ hb, cellW g5_ hb, cellW h0_ hb, cellW h1_ hb, cellW h2_ hb, cellW h3_ hb, cellW h4_ hb, cellW h5_ hb⟩)
                  have hdr : Below wr.heap.size wr wr.drew := below_drew (Below.refl _ _)
                  have hI : (fun W1 : World => (W1.cell? ⟨P2, 5, none⟩ = some (.slice (some ak) px5.length e5) ∧ W1.cell? ⟨Q2, 5, none⟩ = some (.slice (some bk) qx5.length f5) ∧ W1.cell? (ak.add (j * 6)) = some (.int .i64 kx0) ∧ W1.cell? ⟨(ak.add (j * 6)).block, (ak.add (j * 6)).off + 1, none⟩ = some (.int .i64 kx1) ∧ W1.cell? ⟨(ak.add (j * 6)).block, (ak.add (j * 6)).off + 2, none⟩ = some (.string kx2) ∧ W1.cell? ⟨(ak.add (j * 6)).block, (ak.add (j * 6)).off + 3, none⟩ = some (.slice K3 kx3.length m3) ∧ W1.cell? ⟨(ak.add (j * 6)).block, (ak.add (j * 6)).off + 4, none⟩ = some (.string kx4) ∧ W1.cell? ⟨(ak.add (j * 6)).block, (ak.add (j * 6)).off + 5, none⟩ = some (.slice K5 kx5.length m5) ∧ W1.cell? (bk.add (j * 6)) = some (.int .i64 ky0) ∧ W1.cell? ⟨(bk.add (j * 6)).block, (bk.add (j * 6)).off + 1, none⟩ = some (.int .i64 ky1) ∧ W1.cell? ⟨(bk.add (j * 6)).block, (bk.add (j * 6)).off + 2, none⟩ = some (.string ky2) ∧ W1.cell? ⟨(bk.add (j * 6)).block, (bk.add (j * 6)).off + 3, none⟩ = some (.slice L3 ky3.length n3) ∧ W1.cell? ⟨(bk.add (j * 6)).block, (bk.add (j * 6)).off + 4, none⟩ = some (.string ky4) ∧ W1.cell? ⟨(bk.add (j * 6)).block, (bk.add (j * 6)).off + 5, none⟩ = some (.slice L5 ky5.length n5)) ∧ Below wr.heap.size wr W1) wr.drew := ⟨AS_.out _ hdr, hdr⟩
                  clear hdr g0_ g1_ g2_ g3_ g4_ g5_ h0_ h1_ h2_ h3_ h4_ h5_ x5 z5
                  first
                  | go_region_held3 (fun W1 => (W1.cell? ⟨P2, 5, none⟩ = some (.slice (some ak) px5.length e5) ∧ W1.cell? ⟨Q2, 5, none⟩ = some (.slice (some bk) qx5.length f5) ∧ W1.cell? (ak.add (j * 6)) = some (.int .i64 kx0) ∧ W1.cell? ⟨(ak.add (j * 6)).block, (ak.add (j * 6)).off + 1, none⟩ = some (.int .i64 kx1) ∧ W1.cell? ⟨(ak.add (j * 6)).block, (ak.add (j * 6)).off + 2, none⟩ = some (.string kx2) ∧ W1.cell? ⟨(ak.add (j * 6)).block, (ak.add (j * 6)).off + 3, none⟩ = some (.slice K3 kx3.length m3) ∧ W1.cell? ⟨(ak.add (j * 6)).block, (ak.add (j * 6)).off + 4, none⟩ = some (.string kx4) ∧ W1.cell? ⟨(ak.add (j * 6)).block, (ak.add (j * 6)).off + 5, none⟩ = some (.slice K5 kx5.length m5) ∧ W1.cell? (bk.add (j * 6)) = some (.int .i64 ky0) ∧ W1.cell? ⟨(bk.add (j * 6)).block, (bk.add (j * 6)).off + 1, none⟩ = some (.int .i64 ky1) ∧ W1.cell? ⟨(bk.add (j * 6)).block, (bk.add (j * 6)).off + 2, none⟩ = some (.string ky2) ∧ W1.cell? ⟨(bk.add (j * 6)).block, (bk.add (j * 6)).off + 3, none⟩ = some (.slice L3 ky3.length n3) ∧ W1.cell? ⟨(bk.add (j * 6)).block, (bk.add (j * 6)).off + 4, none⟩ = some (.string ky4) ∧ W1.cell? ⟨(bk.add (j * 6)).block, (bk.add (j * 6)).off + 5, none⟩ = some (.slice L5 ky5.length n5)) ∧ Below wr.heap.size wr W1)
                      (first | exact hI | ((try go_split_ands); exact ⟨AS_.out _ (below_step (by assumption) bN), below_step (by assumption) bN⟩) | go_keep)
                      (first | (go_at_call 19; (try go_split_ands); (with_reducible refine (HC.out _ (by assumption)).mono ?_); rintro e wn ⟨rfl, bN⟩))
                  | fail
                  (try go_split_ands)
                  go_wp2_with fail
                  go_roundw
                  case rel => exact ⟨j + 1, by omega, by go_num, ⟨HS.out.step (by assumption), HM.out.step (by assumption)⟩⟩
                  case measure => simp [intOf]; omega
                · have hpl : p.length ≤ 9223372036854775807 := by have := HPL.out; omega
                  have j1 : ¬ (j : Int) < (kk : Int) := by omega
                  clear x5 z5
                  go_wp2_with fail
                  go_roundw
                  case rel => exact ⟨k + 1, by have := HLT.out; omega, by go_num, ⟨HS.out⟩⟩
                  case measure => simp [intOf]; have := HLT.out; omega
        · have k1 : ¬ (k : Int) < (p.length : Int) := by omega
          have HD2 := hide (diffTV 6 _ _ _ _ wr HS.out.hb.now HS.out.ha.now (by decide) HALB.out.1 HAL.out.1 (by have := HAL.out.2; have := HALB.out.2; omega))
          rw [dif_symm, HDD.out] at HD2
          go_wp2_with fail
          (with_reducible refine HD2.out.mono ?_)
          rintro e w30 ⟨vv, rfl, hR, hB30⟩
          obtain ⟨Av, cv, rfl, hcv, hCv⟩ := Kd.R_reads hR
          dsimp only [resD] at hcv hCv ⊢
          have HS30 := hide (HS.out.step hB30)
          have HCV := hide hCv
          have hcl := hcv
          clear hR hB30 HD2 HS hCv
          clear x0 x1 x2 x3 x4 x5 z0 z1 z2 z3 z4 z5
          go_wp2_with fail
          (with_reducible refine (arbourbook_Same_int.calls (p.length + 1) Av cv p Aw cw p true w30 HCV.out hcl HS30.out.hp HCWL.out (sameInts p (by have := HPL.out; omega))).mono ?_)
          rintro e w31 ⟨rfl, dN⟩
          dsimp only
          have HS31 := hide (HS30.out.step (Drawn0.below dN))
          clear dN HS30 HCV
          go_wp2_with fail
          (with_reducible refine (known w31).mono ?_)
          rintro e w32 ⟨rfl, hb32⟩
          dsimp only
          have HF := hide (below_step HS31.out.hB hb32)
          clear hb32 HS31
          go_wp2_with fail
          go_ret
          exact ⟨rfl, HF.out⟩
end Go.Proofs.YteglfgmgpbablaaDoor.Cmp
