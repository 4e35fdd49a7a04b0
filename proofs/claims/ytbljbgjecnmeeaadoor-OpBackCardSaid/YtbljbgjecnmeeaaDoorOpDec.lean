/- Plain laws for OpBack: reading operations from bytes undoes writing them, and the other way round. The walks of op's reader: raw, number and text. The walks of arbourkeep.Cut, arbourbook.Roomy and arbourbook.Intact over bytes. The walk of op's reader.one: an operation is read. The walk of op.Decode. -/
import Derived.Test.YtbljbgjecnmeeaaDoorOpEnc
import Derived.Test.YtbljbgjecnmeeaaDoorPOpBackx6
import Derived.Test.YtbljbgjecnmeeaaDoorOpRight
import Derived.Deep.RegionLaw
import Derived.Outline
namespace Go.Proofs.YtbljbgjecnmeeaaDoor.OpP
open Go.RowKit Go.Proofs.YtbljbgjecnmeeaaDoor.POpTells Go.Proofs.YtbljbgjecnmeeaaDoorW.PrintWords Go.Proofs.YtbljbgjecnmeeaaDoorW.PrintLast
set_option linter.unusedVariables false
set_option linter.unusedSimpArgs false
/-- Bytes. -/
def Byt (xs : List Int) : Prop := ∀ x ∈ xs, 0 ≤ x ∧ x < 256
/-- A reader: what is left, and whether it lacked. -/
abbrev Rs := List Int × Bool
def rawL (s : Rs) (n : Nat) : List Int × Rs := if s.1.length < n then ([], ([], true)) else (s.1.take n, (s.1.drop n, s.2))
def bnum (xs : List Int) : Int := xs.foldl (fun n c => n * 256 + c) 0
def numL (s : Rs) (k : Nat) : Int × Rs := (bnum (rawL s k).1, (rawL s k).2)
def txtL (s : Rs) : ByteArray × Rs := (strOfNums (rawL (numL s 3).2 (numL s 3).1.toNat).1, (rawL (numL s 3).2 (numL s 3).1.toNat).2)
/-- The attributes: n are wanted. -/
def attrsL : Nat → Rs → List S32 → List S32 × Rs
  | 0, s, acc => (acc, s)
  | n + 1, s, acc => if s.2 = true then (acc, s) else attrsL n (txtL (txtL s).2).2 (acc ++ [⟨(txtL s).1, (txtL (txtL s).2).1⟩])
def s1 (s : Rs) : Rs := (numL s 1).2
def s2 (s : Rs) : Rs := (numL (s1 s) 4).2
def s3 (s : Rs) : Rs := (numL (s2 s) 4).2
def s4 (s : Rs) : Rs := (numL (s3 s) 4).2
def s5 (s : Rs) : Rs := (numL (s4 s) 1).2
def s6 (s : Rs) : Rs := (numL (s5 s) 1).2
def s7 (s : Rs) : Rs := (txtL (s6 s)).2
def s8 (s : Rs) : Rs := (numL (s7 s) 2).2
def atL (s : Rs) : List S32 × Rs := attrsL (numL (s7 s) 2).1.toNat (s8 s) []
def oneL (s : Rs) : S24 × Rs := (⟨(numL s 1).1, (numL (s1 s) 4).1, (numL (s2 s) 4).1, (numL (s3 s) 4).1, (numL (s4 s) 1).1, (numL (s5 s) 1).1, (txtL (s6 s)).1, (atL s).1, (txtL (atL s).2).1⟩, (txtL (atL s).2).2)
def decL : Nat → Rs → List S24 → Option (List S24)
  | 0, _, _ => none
  | f + 1, s, acc => if s.1.length = 0 then some acc else if (oneL s).2.2 = true ∨ rightB (oneL s).1 = false then none else decL f (oneL s).2 (acc ++ [(oneL s).1])
/-! A number's bytes. -/
theorem bnum_snoc (xs : List Int) (c : Int) : bnum (xs ++ [c]) = bnum xs * 256 + c := by unfold bnum; rw [List.foldl_append]; rfl
theorem snocInd {P : List Int → Prop} (h0 : P []) (hs : ∀ xs c, P xs → P (xs ++ [c])) (xs : List Int) : P xs := by
  have h : ∀ ys : List Int, P ys.reverse := by
    intro ys
    induction ys with
    | nil => exact h0
    | cons y ys ih => rw [List.reverse_cons]; exact hs _ _ ih
  have := h xs.reverse
  rwa [List.reverse_reverse] at this
theorem bnum_range (xs : List Int) : Byt xs → 0 ≤ bnum xs ∧ bnum xs < 256 ^ xs.length := by
  refine snocInd (P := fun xs => Byt xs → 0 ≤ bnum xs ∧ bnum xs < 256 ^ xs.length) (fun _ => ⟨Int.le_refl _, by decide⟩) (fun xs c ih h => ?_) xs
  · have h1 := ih (fun x hx => h x (List.mem_append_left _ hx))
    have h2 := h c (by simp)
    rw [bnum_snoc, List.length_append, List.length_singleton, Int.pow_succ]
    omega
theorem be_snoc (n : Int) : ∀ k, be n (k + 1) = be (n / 256) k ++ [n % 256]
  | 0 => by
    unfold be be
    rw [show (256 : Int) ^ 0 = 1 from by decide, Int.ediv_one]
    rfl
  | k + 1 => by
    have ih := be_snoc n k
    have e : be n (k + 2) = (n / 256 ^ (k + 1)) % 256 :: be n (k + 1) := by rw [be]
    have e2 : be (n / 256) (k + 1) = (n / 256 / 256 ^ k) % 256 :: be (n / 256) k := by rw [be]
    have e3 : n / 256 ^ (k + 1) = n / 256 / 256 ^ k := by
      rw [Int.pow_succ, Int.mul_comm, Int.ediv_ediv_of_nonneg (by decide)]
    rw [e, ih, e2, e3, List.cons_append]
theorem bnum_be (n : Int) : ∀ k, 0 ≤ n → n < 256 ^ k → bnum (be n k) = n
  | 0, h0, h1 => by
    have : n = 0 := by have : (256 : Int) ^ 0 = 1 := by decide
                       omega
    rw [this]; rfl
  | k + 1, h0, h1 => by
    rw [Int.pow_succ] at h1
    rw [be_snoc, bnum_snoc, bnum_be (n / 256) k (by omega) (by omega)]
    omega
theorem be_bnum (xs : List Int) : Byt xs → be (bnum xs) xs.length = xs := by
  refine snocInd (P := fun xs => Byt xs → be (bnum xs) xs.length = xs) (fun _ => rfl) (fun xs c ih h => ?_) xs
  · have h1 := ih (fun x hx => h x (List.mem_append_left _ hx))
    have h2 := h c (by simp)
    rw [bnum_snoc, List.length_append, List.length_singleton, be_snoc]
    rw [show (bnum xs * 256 + c) / 256 = bnum xs from by omega, show (bnum xs * 256 + c) % 256 = c from by omega, h1]
theorem be_byt (n : Int) : ∀ k, Byt (be n k)
  | 0 => by intro x hx; cases hx
  | k + 1 => by
    intro x hx
    rw [be] at hx
    rcases List.mem_cons.1 hx with rfl | hx
    · omega
    · exact be_byt n k x hx
theorem str_bytes (s : ByteArray) : strOfNums (bytesOf s) = s := by
  apply ByteArray.ext
  unfold strOfNums bytesOf
  rw [List.map_map]
  have : s.data.toList.map ((fun n : Int => UInt8.ofNat n.toNat) ∘ fun b : UInt8 => (b.toNat : Int)) = s.data.toList.map id := by
    apply List.map_congr_left
    intro b _
    simp
  rw [this, List.map_id]
theorem bytes_str (xs : List Int) (h : Byt xs) : bytesOf (strOfNums xs) = xs := by
  unfold strOfNums bytesOf
  simp only [List.map_map]
  conv => rhs; rw [← List.map_id xs]
  apply List.map_congr_left
  intro x hx
  have := h x hx
  simp
  omega
theorem bytesOf_byt (s : ByteArray) : Byt (bytesOf s) := by
  intro x hx
  obtain ⟨b, -, rfl⟩ := List.mem_map.1 hx
  have := b.toNat_lt
  omega
theorem str_size (xs : List Int) : (strOfNums xs).size = xs.length := by
  have := bytesOf_length (strOfNums xs)
  unfold strOfNums
  simp [ByteArray.size]
/-! Writing, then reading. -/
theorem rawL_app (a b : List Int) (q : Bool) (n : Nat) (h : a.length = n) : rawL (a ++ b, q) n = (a, (b, q)) := by
  subst h
  unfold rawL
  rw [if_neg (by simp)]
  simp
theorem numL_be (n : Int) (k : Nat) (ys : List Int) (h0 : 0 ≤ n) (h1 : n < 256 ^ k) : numL (be n k ++ ys, false) k = (n, (ys, false)) := by
  unfold numL
  rw [rawL_app _ _ _ _ (be_length n k), bnum_be n k h0 h1]
theorem txtL_txt (s : ByteArray) (ys : List Int) (h : s.size ≤ 16777215) : txtL (txt s ++ ys, false) = (s, (ys, false)) := by
  have e : numL (txt s ++ ys, false) 3 = ((s.size : Int), (bytesOf s ++ ys, false)) := by
    unfold txt
    rw [List.append_assoc]
    exact numL_be _ 3 _ (by omega) (by have : (256 : Int) ^ 3 = 16777216 := by decide
                                       omega)
  unfold txtL
  rw [e]
  dsimp only
  rw [Int.toNat_natCast, rawL_app _ _ _ _ (bytesOf_length s), str_bytes]
theorem attrsL_enc : ∀ (l : List S32) (ys : List Int) (acc : List S32), l.any longB = false → attrsL l.length (l.flatMap encA ++ ys, false) acc = (acc ++ l, (ys, false))
  | [], ys, acc, _ => by simp [attrsL]
  | x :: l, ys, acc, h => by
    rw [List.any_cons, Bool.or_eq_false_iff] at h
    have hx : x.f0.size ≤ 16777215 ∧ x.f1.size ≤ 16777215 := by
      have := h.1
      unfold longB at this
      simp only [Bool.or_eq_false_iff, decide_eq_false_iff_not] at this
      omega
    have e1 : txtL ((x :: l).flatMap encA ++ ys, false) = (x.f0, (txt x.f1 ++ (l.flatMap encA ++ ys), false)) := by
      rw [List.flatMap_cons]
      unfold encA
      rw [List.append_assoc, List.append_assoc]
      exact txtL_txt _ _ hx.1
    have e2 : txtL (txt x.f1 ++ (l.flatMap encA ++ ys), false) = (x.f1, (l.flatMap encA ++ ys, false)) := txtL_txt _ _ hx.2
    rw [List.length_cons, attrsL, if_neg (fun h => by cases h), e1]
    dsimp only
    rw [e2]
    dsimp only
    rw [attrsL_enc l ys _ h.2]
    simp
theorem asked_f4 (y : S24) (h1 : y.f0 ≠ 1) : (askedL y).f4 = 0 := by
  unfold askedL
  rw [if_neg h1]
  repeat' split
  all_goals rfl
/-- The numbers of what is right are within a byte, or four. -/
theorem right_ranges {o : S24} (h : rightB o = true) : (1 ≤ o.f0 ∧ o.f0 ≤ 11) ∧ (0 ≤ o.f1 ∧ o.f1 ≤ 2147483647) ∧ (0 ≤ o.f2 ∧ o.f2 ≤ 2147483647) ∧ (0 ≤ o.f3 ∧ o.f3 ≤ 2147483647) ∧ (0 ≤ o.f4 ∧ o.f4 ≤ 5) ∧ (0 ≤ o.f5 ∧ o.f5 ≤ 2) := by
  unfold rightB kindB numB at h
  simp only [Bool.and_eq_true, Bool.or_eq_true, decide_eq_true_eq, Bool.not_eq_true', beq_iff_eq, beq_eq_false_iff_ne] at h
  obtain ⟨h0, hs, h1, h2, h3, h4, h5⟩ := h
  refine ⟨h0, h1, h2, h3, ?_, h5⟩
  rcases h4 with h4 | h4
  · have e := asked_f4 o h4
    unfold sameB at hs
    simp only [Bool.and_eq_true, beq_iff_eq] at hs
    have := hs.2.2.2.2.1
    omega
  · omega
theorem oneL_enc (o : S24) (ys : List Int) (h : okB o = true) : oneL (encO o ++ ys, false) = (o, (ys, false)) := by
  unfold okB at h
  rw [Bool.and_eq_true] at h
  obtain ⟨r0, r1, r2, r3, r4, r5⟩ := right_ranges h.1
  have hf := h.2
  unfold fitsB at hf
  simp only [Bool.and_eq_true, decide_eq_true_eq, Bool.not_eq_true'] at hf
  obtain ⟨f6, f8, f7, fa⟩ := hf
  have p1 : (256 : Int) ^ 1 = 256 := by decide
  have p2 : (256 : Int) ^ 2 = 65536 := by decide
  have p4 : (256 : Int) ^ 4 = 4294967296 := by decide
  have e0 : encO o ++ ys = be o.f0 1 ++ (be o.f1 4 ++ (be o.f2 4 ++ (be o.f3 4 ++ (be o.f4 1 ++ (be o.f5 1 ++ (txt o.f6 ++ (be (o.f7.length : Int) 2 ++ (o.f7.flatMap encA ++ (txt o.f8 ++ ys))))))))) := by
    unfold encO encH
    simp only [List.append_assoc]
  rw [e0]
  have n0 := numL_be o.f0 1 (be o.f1 4 ++ (be o.f2 4 ++ (be o.f3 4 ++ (be o.f4 1 ++ (be o.f5 1 ++ (txt o.f6 ++ (be (o.f7.length : Int) 2 ++ (o.f7.flatMap encA ++ (txt o.f8 ++ ys))))))))) (by omega) (by omega)
  have n1 := numL_be o.f1 4 (be o.f2 4 ++ (be o.f3 4 ++ (be o.f4 1 ++ (be o.f5 1 ++ (txt o.f6 ++ (be (o.f7.length : Int) 2 ++ (o.f7.flatMap encA ++ (txt o.f8 ++ ys)))))))) (by omega) (by omega)
  have n2 := numL_be o.f2 4 (be o.f3 4 ++ (be o.f4 1 ++ (be o.f5 1 ++ (txt o.f6 ++ (be (o.f7.length : Int) 2 ++ (o.f7.flatMap encA ++ (txt o.f8 ++ ys))))))) (by omega) (by omega)
  have n3 := numL_be o.f3 4 (be o.f4 1 ++ (be o.f5 1 ++ (txt o.f6 ++ (be (o.f7.length : Int) 2 ++ (o.f7.flatMap encA ++ (txt o.f8 ++ ys)))))) (by omega) (by omega)
  have n4 := numL_be o.f4 1 (be o.f5 1 ++ (txt o.f6 ++ (be (o.f7.length : Int) 2 ++ (o.f7.flatMap encA ++ (txt o.f8 ++ ys))))) (by omega) (by omega)
  have n5 := numL_be o.f5 1 (txt o.f6 ++ (be (o.f7.length : Int) 2 ++ (o.f7.flatMap encA ++ (txt o.f8 ++ ys)))) (by omega) (by omega)
  have n6 := txtL_txt o.f6 (be (o.f7.length : Int) 2 ++ (o.f7.flatMap encA ++ (txt o.f8 ++ ys))) f6
  have n7 := numL_be (o.f7.length : Int) 2 (o.f7.flatMap encA ++ (txt o.f8 ++ ys)) (by omega) (by omega)
  have n8 := attrsL_enc o.f7 (txt o.f8 ++ ys) [] fa
  have n9 := txtL_txt o.f8 ys f8
  unfold oneL atL s8 s7 s6 s5 s4 s3 s2 s1
  simp only [n0, n1, n2, n3, n4, n5, n6, n7, n9, Int.toNat_natCast, n8, List.nil_append]
theorem encO_pos (o : S24) : 0 < (encO o).length := by
  unfold encO encH
  simp only [List.length_append, be_length]
  omega
theorem decL_enc : ∀ (l : List S24) (acc : List S24) (f : Nat), l.all okB = true → l.length < f → decL f (encL l, false) acc = some (acc ++ l)
  | [], acc, f + 1, _, _ => by rw [decL, if_pos (by rfl), List.append_nil]
  | o :: l, acc, f + 1, h, hf => by
    rw [List.all_cons, Bool.and_eq_true] at h
    have e : encL (o :: l) = encO o ++ encL l := by unfold encL; rw [List.flatMap_cons]
    have hp := encO_pos o
    have hr : rightB o = true := by have := h.1; unfold okB at this; rw [Bool.and_eq_true] at this; exact this.1
    rw [e, decL, if_neg (by rw [List.length_append]; omega), oneL_enc o _ h.1, if_neg (by simp [hr])]
    dsimp only
    rw [decL_enc l (acc ++ [o]) f h.2 (by rw [List.length_cons] at hf; omega)]
    simp
/-! Reading, then writing. -/
theorem byt_app {a b : List Int} (h : Byt (a ++ b)) : Byt a ∧ Byt b := ⟨fun x hx => h x (List.mem_append_left _ hx), fun x hx => h x (List.mem_append_right _ hx)⟩
theorem rawL_ok {s : Rs} {n : Nat} (h : (rawL s n).2.2 = false) : s.2 = false ∧ s.1 = (rawL s n).1 ++ (rawL s n).2.1 ∧ (rawL s n).1.length = n := by
  unfold rawL at h ⊢
  by_cases hl : s.1.length < n
  · rw [if_pos hl] at h; cases h
  · rw [if_neg hl] at h ⊢
    exact ⟨h, (List.take_append_drop n s.1).symm, by rw [List.length_take]; omega⟩
theorem numL_ok {s : Rs} {k : Nat} (h : (numL s k).2.2 = false) (hb : Byt s.1) : s.2 = false ∧ s.1 = be (numL s k).1 k ++ (numL s k).2.1 ∧ (0 ≤ (numL s k).1 ∧ (numL s k).1 < 256 ^ k) ∧ Byt (numL s k).2.1 := by
  obtain ⟨h1, h2, h3⟩ := rawL_ok (s := s) (n := k) h
  have hb' := hb
  rw [h2] at hb'
  obtain ⟨b1, b2⟩ := byt_app hb'
  have hr := bnum_range _ b1
  have hq := be_bnum _ b1
  rw [h3] at hr hq
  refine ⟨h1, ?_, hr, b2⟩
  show s.1 = be (bnum (rawL s k).1) k ++ (rawL s k).2.1
  rw [hq]
  exact h2
theorem txtL_ok {s : Rs} (h : (txtL s).2.2 = false) (hb : Byt s.1) : s.2 = false ∧ s.1 = txt (txtL s).1 ++ (txtL s).2.1 ∧ (txtL s).1.size ≤ 16777215 ∧ Byt (txtL s).2.1 := by
  obtain ⟨h1, h2, h3⟩ := rawL_ok (s := (numL s 3).2) (n := (numL s 3).1.toNat) h
  obtain ⟨g1, g2, g3, g4⟩ := numL_ok h1 hb
  have p3 : (256 : Int) ^ 3 = 16777216 := by decide
  have g4' := g4
  rw [h2] at g4'
  obtain ⟨b1, b2⟩ := byt_app g4'
  have hs : (txtL s).1.size = (numL s 3).1.toNat := by show (strOfNums _).size = _; rw [str_size, h3]
  refine ⟨g1, ?_, by omega, b2⟩
  have e : txt (txtL s).1 = be (numL s 3).1 3 ++ (rawL (numL s 3).2 (numL s 3).1.toNat).1 := by
    unfold txt
    rw [hs, show (((numL s 3).1.toNat : Nat) : Int) = (numL s 3).1 from by omega]
    congr 1
    exact bytes_str _ b1
  rw [e, List.append_assoc]
  show s.1 = be (numL s 3).1 3 ++ ((rawL (numL s 3).2 (numL s 3).1.toNat).1 ++ (rawL (numL s 3).2 (numL s 3).1.toNat).2.1)
  rw [← h2]
  exact g2
theorem rawL_byt {s : Rs} (n : Nat) (hb : Byt s.1) : Byt (rawL s n).2.1 := by
  unfold rawL
  split
  · intro x hx; cases hx
  · exact fun x hx => hb x (List.mem_of_mem_drop hx)
theorem numL_byt {s : Rs} (k : Nat) (hb : Byt s.1) : Byt (numL s k).2.1 := rawL_byt k hb
theorem txtL_byt {s : Rs} (hb : Byt s.1) : Byt (txtL s).2.1 := rawL_byt _ (numL_byt 3 hb)
theorem attrsL_ok : ∀ (n : Nat) (s : Rs) (acc : List S32), (attrsL n s acc).2.2 = false → Byt s.1 → s.2 = false ∧ ∃ new, (attrsL n s acc).1 = acc ++ new ∧ new.length = n ∧ s.1 = new.flatMap encA ++ (attrsL n s acc).2.1 ∧ new.any longB = false ∧ Byt (attrsL n s acc).2.1
  | 0, s, acc, h, hb => ⟨h, [], by simp [attrsL], rfl, by simp [attrsL], rfl, hb⟩
  | n + 1, s, acc, h, hb => by
    by_cases hs : s.2 = true
    · rw [attrsL, if_pos hs, hs] at h; cases h
    · have e : attrsL (n + 1) s acc = attrsL n (txtL (txtL s).2).2 (acc ++ [⟨(txtL s).1, (txtL (txtL s).2).1⟩]) := by rw [attrsL, if_neg hs]
      rw [e] at h ⊢
      obtain ⟨i1, new, i2, i3, i4, i5, i6⟩ := attrsL_ok n _ _ h (txtL_byt (txtL_byt hb))
      obtain ⟨j1, j2, j3, j4⟩ := txtL_ok i1 (txtL_byt hb)
      obtain ⟨k1, k2, k3, k4⟩ := txtL_ok j1 hb
      refine ⟨k1, ⟨(txtL s).1, (txtL (txtL s).2).1⟩ :: new, ?_, by rw [List.length_cons, i3], ?_, ?_, i6⟩
      · rw [i2]; simp
      · rw [List.flatMap_cons, List.append_assoc, ← i4]
        unfold encA
        rw [List.append_assoc, ← j2, ← k2]
      · rw [List.any_cons, i5, Bool.or_false]
        unfold longB
        rw [decide_eq_false (by dsimp only; omega), decide_eq_false (by dsimp only; omega)]
        rfl
theorem toNat_65535 {N : Int} (h : N < 256 ^ 2) : N.toNat ≤ 65535 := by
  have p2 : (256 : Int) ^ 2 = 65536 := by decide
  omega
theorem txtL_bad {s : Rs} (h : (txtL s).2.2 = false) : s.2 = false := by
  have h1 := rawL_ok (s := (numL s 3).2) (n := (numL s 3).1.toNat) h
  exact (rawL_ok (s := s) (n := 3) h1.1).1
theorem s1_def (s : Rs) : s1 s = (numL s 1).2 := by rw [s1]
theorem s2_def (s : Rs) : s2 s = (numL (s1 s) 4).2 := by rw [s2]
theorem s3_def (s : Rs) : s3 s = (numL (s2 s) 4).2 := by rw [s3]
theorem s4_def (s : Rs) : s4 s = (numL (s3 s) 4).2 := by rw [s4]
theorem s5_def (s : Rs) : s5 s = (numL (s4 s) 1).2 := by rw [s5]
theorem s6_def (s : Rs) : s6 s = (numL (s5 s) 1).2 := by rw [s6]
theorem s7_def (s : Rs) : s7 s = (txtL (s6 s)).2 := by rw [s7]
theorem s8_def (s : Rs) : s8 s = (numL (s7 s) 2).2 := by rw [s8]
theorem atL_def (s : Rs) : atL s = attrsL (numL (s7 s) 2).1.toNat (s8 s) [] := by rw [atL]
theorem oneL_of {s S1 S2 S3 S4 S5 S6 S7 S8 S9 S10 : Rs} {n0 n1 n2 n3 n4 n5 m : Int} {t6 t8 : ByteArray} {l7 : List S32} (e0 : numL s 1 = (n0, S1)) (e1 : numL S1 4 = (n1, S2)) (e2 : numL S2 4 = (n2, S3)) (e3 : numL S3 4 = (n3, S4)) (e4 : numL S4 1 = (n4, S5)) (e5 : numL S5 1 = (n5, S6)) (e6 : txtL S6 = (t6, S7)) (e7 : numL S7 2 = (m, S8)) (e8 : attrsL m.toNat S8 [] = (l7, S9)) (e9 : txtL S9 = (t8, S10)) : oneL s = (⟨n0, n1, n2, n3, n4, n5, t6, l7, t8⟩, S10) := by
  have a1 : s1 s = S1 := by rw [s1_def, e0]
  have a2 : s2 s = S2 := by rw [s2_def, a1, e1]
  have a3 : s3 s = S3 := by rw [s3_def, a2, e2]
  have a4 : s4 s = S4 := by rw [s4_def, a3, e3]
  have a5 : s5 s = S5 := by rw [s5_def, a4, e4]
  have a6 : s6 s = S6 := by rw [s6_def, a5, e5]
  have a7 : s7 s = S7 := by rw [s7_def, a6, e6]
  have a8 : s8 s = S8 := by rw [s8_def, a7, e7]
  have a9 : atL s = (l7, S9) := by rw [atL_def, a7, a8, e7]; exact e8
  rw [oneL, a9, a6, a5, a4, a3, a2, a1, e0, e1, e2, e3, e4, e5, e6, e9]
attribute [irreducible] s1 s2 s3 s4 s5 s6 s7 s8 atL
theorem oneL_two (s : Rs) : (oneL s).2 = (txtL (atL s).2).2 := by rw [oneL]
theorem oneL_ok {s : Rs} (h : (oneL s).2.2 = false) (hb : Byt s.1) : s.2 = false ∧ s.1 = encO (oneL s).1 ++ (oneL s).2.1 ∧ fitsB (oneL s).1 = true ∧ Byt (oneL s).2.1 := by
  have b1 : Byt (s1 s).1 := by rw [s1_def]; exact numL_byt 1 hb
  have b2 : Byt (s2 s).1 := by rw [s2_def]; exact numL_byt 4 b1
  have b3 : Byt (s3 s).1 := by rw [s3_def]; exact numL_byt 4 b2
  have b4 : Byt (s4 s).1 := by rw [s4_def]; exact numL_byt 4 b3
  have b5 : Byt (s5 s).1 := by rw [s5_def]; exact numL_byt 1 b4
  have b6 : Byt (s6 s).1 := by rw [s6_def]; exact numL_byt 1 b5
  have b7 : Byt (s7 s).1 := by rw [s7_def]; exact txtL_byt b6
  have b8 : Byt (s8 s).1 := by rw [s8_def]; exact numL_byt 2 b7
  rw [oneL_two] at h ⊢
  have h9 : (atL s).2.2 = false := txtL_bad h
  have A := attrsL_ok (numL (s7 s) 2).1.toNat (s8 s) [] (by rw [← atL_def]; exact h9) b8
  rw [← atL_def] at A
  obtain ⟨a1, new, a2, a3, a4, a5, a6⟩ := A
  obtain ⟨t1, t2, t3, t4⟩ := txtL_ok (s := (atL s).2) h a6
  have C := numL_ok (s := s7 s) (k := 2) (by rw [← s8_def]; exact a1) b7
  rw [← s8_def] at C
  obtain ⟨c1, c2, c3, -⟩ := C
  have D := txtL_ok (s := s6 s) (by rw [← s7_def]; exact c1) b6
  rw [← s7_def] at D
  obtain ⟨d1, d2, d3, -⟩ := D
  have E := numL_ok (s := s5 s) (k := 1) (by rw [← s6_def]; exact d1) b5
  rw [← s6_def] at E
  obtain ⟨e1, e2, -⟩ := E
  have F := numL_ok (s := s4 s) (k := 1) (by rw [← s5_def]; exact e1) b4
  rw [← s5_def] at F
  obtain ⟨f1, f2, -⟩ := F
  have G := numL_ok (s := s3 s) (k := 4) (by rw [← s4_def]; exact f1) b3
  rw [← s4_def] at G
  obtain ⟨g1, g2, -⟩ := G
  have I := numL_ok (s := s2 s) (k := 4) (by rw [← s3_def]; exact g1) b2
  rw [← s3_def] at I
  obtain ⟨i1, i2, -⟩ := I
  have J := numL_ok (s := s1 s) (k := 4) (by rw [← s2_def]; exact i1) b1
  rw [← s2_def] at J
  obtain ⟨j1, j2, -⟩ := J
  have K := numL_ok (s := s) (k := 1) (by rw [← s1_def]; exact j1) hb
  rw [← s1_def] at K
  obtain ⟨k1, k2, -⟩ := K
  rw [List.nil_append] at a2
  have h7 : (oneL s).1.f7 = new := by rw [oneL]; exact a2
  have hl7 : (oneL s).1.f7.length = (numL (s7 s) 2).1.toNat := by rw [h7, a3]
  refine ⟨k1, ?_, ?_, t4⟩
  · have e0 : encO (oneL s).1 = be (numL s 1).1 1 ++ be (numL (s1 s) 4).1 4 ++ be (numL (s2 s) 4).1 4 ++ be (numL (s3 s) 4).1 4 ++ be (numL (s4 s) 1).1 1 ++ be (numL (s5 s) 1).1 1 ++ txt (txtL (s6 s)).1 ++ be (numL (s7 s) 2).1 2 ++ new.flatMap encA ++ txt (txtL (atL s).2).1 := by
      unfold encO encH
      rw [hl7, h7, Int.toNat_of_nonneg c3.1, oneL]
    rw [e0]
    simp only [List.append_assoc]
    rw [← t2, ← a4, ← c2, ← d2, ← e2, ← f2, ← g2, ← i2, ← j2]
    exact k2
  · unfold fitsB
    rw [show (oneL s).1.f6.size = (txtL (s6 s)).1.size from by rw [oneL], show (oneL s).1.f8.size = (txtL (atL s).2).1.size from by rw [oneL], decide_eq_true d3, decide_eq_true t3, hl7, decide_eq_true (toNat_65535 c3.2), h7, a5]
    rfl
theorem decL_ok : ∀ (f : Nat) (s : Rs) (acc l : List S24), decL f s acc = some l → Byt s.1 → ∃ new, l = acc ++ new ∧ encL new = s.1 ∧ new.all okB = true
  | 0, s, acc, l, h, _ => by cases h
  | f + 1, s, acc, l, h, hb => by
    rw [decL] at h
    by_cases h0 : s.1.length = 0
    · rw [if_pos h0] at h
      injection h with h
      exact ⟨[], by rw [← h, List.append_nil], (List.eq_nil_of_length_eq_zero h0).symm, rfl⟩
    · rw [if_neg h0] at h
      by_cases h1 : (oneL s).2.2 = true ∨ rightB (oneL s).1 = false
      · rw [if_pos h1] at h; cases h
      · rw [if_neg h1] at h
        have h2 : (oneL s).2.2 = false := by cases e : (oneL s).2.2 with | true => exact absurd (.inl e) h1 | false => rfl
        have h3 : rightB (oneL s).1 = true := by cases e : rightB (oneL s).1 with | false => exact absurd (.inr e) h1 | true => rfl
        obtain ⟨-, k2, k3, k4⟩ := oneL_ok h2 hb
        obtain ⟨new, n1, n2, n3⟩ := decL_ok f _ _ _ h k4
        refine ⟨(oneL s).1 :: new, by rw [n1]; simp, ?_, ?_⟩
        · unfold encL at n2 ⊢
          rw [List.flatMap_cons, n2]
          exact k2.symm
        · rw [List.all_cons, n3]
          unfold okB
          rw [h3, k3]
          rfl
/-- Each one takes a byte at least. -/
theorem rawL_len {s : Rs} (n : Nat) : (rawL s n).2.1.length ≤ s.1.length := by
  unfold rawL
  split
  · simp
  · simp
theorem txtL_len (s : Rs) : (txtL s).2.1.length ≤ s.1.length := Nat.le_trans (rawL_len _) (rawL_len 3)
theorem attrsL_len : ∀ (n : Nat) (s : Rs) (acc : List S32), (attrsL n s acc).2.1.length ≤ s.1.length
  | 0, s, acc => Nat.le_refl _
  | n + 1, s, acc => by
    rw [attrsL]
    split
    · exact Nat.le_refl _
    · exact Nat.le_trans (attrsL_len n _ _) (Nat.le_trans (txtL_len _) (txtL_len _))
theorem oneL_len {s : Rs} (h : 0 < s.1.length) : (oneL s).2.1.length < s.1.length := by
  have h1 : (s1 s).1.length < s.1.length := by
    rw [s1_def]
    show (rawL s 1).2.1.length < _
    unfold rawL
    rw [if_neg (Nat.not_lt.2 h)]
    show (s.1.drop 1).length < s.1.length
    rw [List.length_drop]
    exact Nat.sub_lt h (by decide)
  have k2 : (s2 s).1.length ≤ (s1 s).1.length := by rw [s2_def]; exact rawL_len 4
  have k3 : (s3 s).1.length ≤ (s2 s).1.length := by rw [s3_def]; exact rawL_len 4
  have k4 : (s4 s).1.length ≤ (s3 s).1.length := by rw [s4_def]; exact rawL_len 4
  have k5 : (s5 s).1.length ≤ (s4 s).1.length := by rw [s5_def]; exact rawL_len 1
  have k6 : (s6 s).1.length ≤ (s5 s).1.length := by rw [s6_def]; exact rawL_len 1
  have k7 : (s7 s).1.length ≤ (s6 s).1.length := by rw [s7_def]; exact txtL_len _
  have k8 : (s8 s).1.length ≤ (s7 s).1.length := by rw [s8_def]; exact rawL_len 2
  have k9 : (atL s).2.1.length ≤ (s8 s).1.length := by rw [atL_def]; exact attrsL_len _ _ _
  have h3 : (oneL s).2.1.length ≤ (atL s).2.1.length := by rw [oneL_two]; exact txtL_len _
  exact Nat.lt_of_le_of_lt (Nat.le_trans h3 (Nat.le_trans k9 (Nat.le_trans k8 (Nat.le_trans k7 (Nat.le_trans k6 (Nat.le_trans k5 (Nat.le_trans k4 (Nat.le_trans k3 k2)))))))) h1
end Go.Proofs.YtbljbgjecnmeeaaDoor.OpP
namespace Go.Proofs.YtbljbgjecnmeeaaDoor.OpP
open Go.RowKit Go.Proofs.YtbljbgjecnmeeaaDoor.POpTells Go.Proofs.YtbljbgjecnmeeaaDoorW.PrintWords Go.Proofs.YtbljbgjecnmeeaaDoorW.PrintLast
set_option linter.unusedVariables false
set_option linter.unusedSimpArgs false
/-- All that was stays, but for one block. -/
structure Ks (g : Nat) (w w' : World) : Prop where
  os : w'.os = w.os
  tape : w'.tape = w.tape
  output : w'.output = w.output
  size : w.heap.size ≤ w'.heap.size
  blk : ∀ k, k < w.heap.size → k ≠ g → w'.heap[k]? = w.heap[k]?
theorem Ks.refl (g : Nat) (w : World) : Ks g w w := ⟨rfl, rfl, rfl, Nat.le_refl _, fun _ _ _ => rfl⟩
theorem Ks.trans {g : Nat} {a b c : World} (h : Ks g a b) (k : Ks g b c) : Ks g a c :=
  ⟨k.os.trans h.os, k.tape.trans h.tape, k.output.trans h.output, Nat.le_trans h.size k.size, fun i hi hg => (k.blk i (Nat.lt_of_lt_of_le hi h.size) hg).trans (h.blk i hi hg)⟩
theorem Ks.of_below {g : Nat} {w w' : World} (h : Below w.heap.size w w') : Ks g w w' := ⟨h.os, h.tape, h.output, h.size, fun i hi _ => h.block i hi⟩
theorem Ks.below {g B : Nat} {w w' : World} (h : Ks g w w') (hB : B ≤ w.heap.size) (hg : B ≤ g) : Below B w w' := ⟨h.os, h.tape, h.output, h.size, fun i hi => h.blk i (by omega) (by omega)⟩
theorem Ks.keep {g : Nat} {w w' : World} (h : Ks g w w') : KeepBut w w' g none := ⟨h.size, fun i hi hg _ => h.blk i hi hg⟩
theorem Ks.set (g : Nat) (w : World) (j : Nat) (v : Value) : Ks g w (w.setCell ⟨g, j, none⟩ v) := by
  have h : Below g w (w.setCell ⟨g, j, none⟩ v) := (Below.refl g w).setCell (Nat.le_refl g) v
  exact ⟨h.os, h.tape, h.output, h.size, fun i hi hg => Below.heap_setCell w ⟨g, j, none⟩ v i hg⟩
/-- The reader in block g. -/
def Rdr (w : World) (g : Nat) (s : Rs) : Prop := ∃ A c, w.heap[g]? = some (.cells #[.slice A s.1.length c, .bool s.2] 73 (0, 0)) ∧ kB.C w A s.1.length s.1 ∧ s.1.length ≤ c ∧ ∀ ad, A = some ad → 0 < s.1.length → ad.block < g
theorem Rdr.below {w w' : World} {g : Nat} {s : Rs} (h : Rdr w g s) (hb : Below w.heap.size w w') : Rdr w' g s := by
  obtain ⟨A, c, h1, h2, h3, h4⟩ := h
  exact ⟨A, c, (hb.block _ (blk_lt h1)).trans h1, Kd.C_below h2 hb, h3, h4⟩
theorem kB_up {w w' : World} {A : Option Addr} {xs : List Int} {B : Nat} (h : kB.C w A xs.length xs) (hA : ∀ ad, A = some ad → 0 < xs.length → ad.block < B) (hb : Below B w w') : kB.C w' A xs.length xs := by
  refine ⟨h.1, h.2.1, fun h0 => ?_⟩
  obtain ⟨ad, e, hc⟩ := h.2.2 h0
  refine ⟨ad, e, fun j p hj => ?_⟩
  obtain ⟨c, hl, hK, hcc⟩ := hc j p hj
  exact ⟨c, hl, hK, fun i u hu => (hb.cell (p := ad.add (j * kB.sz + i)) (by rw [add_block]; exact hA ad e h0)).trans (hcc i u hu)⟩
theorem Rdr.up {w w' : World} {g : Nat} {s : Rs} (h : Rdr w g s) (hb : Below (g + 1) w w') : Rdr w' g s := by
  obtain ⟨A, c, h1, h2, h3, h4⟩ := h
  exact ⟨A, c, (hb.block g (by omega)).trans h1, kB_up h2 (fun ad e h0 => Nat.lt_succ_of_lt (h4 ad e h0)) hb, h3, h4⟩
/-- What raw hands back. -/
def RawP (w : World) (g : Nat) (r : List Int × Rs) (e : Ending) (w' : World) : Prop := ∃ A c, e = .returned (.slice A r.1.length c) ∧ kB.C w' A r.1.length r.1 ∧ Rdr w' g r.2 ∧ Ks g w w'
theorem info5D : ∃ i, Tryd.prog.info? 5 = some i ∧ i.size = 1 := ⟨_, rfl, by kernel_rfl⟩
set_option maxHeartbeats 2000000 in
set_option maxRecDepth 100000 in
theorem raw (w : World) (g : Nat) (s : Rs) (n : Nat) (h : Rdr w g s) (hn : n ≤ 4294967296) : Calls Tryd.prog 50 #[.pointer (some ⟨g, 0, none⟩), .int .i64 (n : Int)] w (RawP w g (rawL s n)) := by
  obtain ⟨xs, q⟩ := s
  obtain ⟨A, c, hX, hC, hc, hA⟩ := h
  dsimp only at hX hC hc hA
  have hmx := hC.2.1
  have c0 : w.cell? ⟨g, 0, none⟩ = some (.slice A xs.length c) := cell_of_row _ _ 0 _ _ _ hX
  have c1 : w.cell? ⟨g, 1, none⟩ = some (.bool q) := cell_of_row _ _ 1 _ _ _ hX
  have f0 := blk_frozen hX 0
  have f1 := blk_frozen hX 1
  by_cases hl : xs.length < n
  · have e : rawL (xs, q) n = ([], ([], true)) := by unfold rawL; rw [if_pos hl]
    rw [e]
    have X0 := blk_set hX 0 (.slice none 0 0)
    have X1 := blk_set X0 1 (.bool true)
    have g1 := blk_frozen X0 1
    have HX1 := hide X1
    clear hC hX X0 X1 e hA
    go_enter Tryd.func50, Tryd.ntmps50
    go_wp2_with fail
    go_ret
    exact ⟨none, 0, rfl, Kd.C_nil _ _, ⟨none, 0, HX1.out, Kd.C_nil _ _, Nat.le_refl _, fun ad e => by cases e⟩, (Ks.set g w 0 _).trans (Ks.set g _ 1 _)⟩
  · have e : rawL (xs, q) n = (xs.take n, (xs.drop n, q)) := by unfold rawL; rw [if_neg hl]
    rw [e]
    obtain ⟨i0, hi0, hsz0⟩ := info5D
    have hcut1 := cut_to (P := Tryd.prog) 36 5 .i64 Tryd.underlying36 hi0 A xs.length c (n : Int) (by omega) (by omega) hc
    have hcut2 := cut_from (P := Tryd.prog) 36 5 .i64 Tryd.underlying36 hi0 1 hsz0 A xs.length c (n : Int) (by omega) (by omega)
    rw [Int.toNat_natCast] at hcut1 hcut2
    have hCt : kB.C w A (xs.take n).length (xs.take n) := Kd.C_take hC (by omega)
    have hCd : kB.C w (if c = n then A else A.map (·.add (n * 1))) (xs.drop n).length (xs.drop n) := Kd.C_drop hC (by omega) hc
    have ht : (xs.take n).length = n := by rw [List.length_take]; omega
    have hd : (xs.drop n).length = xs.length - n := List.length_drop
    have hA2 : ∀ ad, (if c = n then A else A.map (·.add (n * 1))) = some ad → 0 < (xs.drop n).length → ad.block < g := by
      intro ad he h0
      have h1 : 0 < xs.length := by omega
      split at he
      · exact hA ad he h1
      · cases A with
        | none => cases he
        | some b =>
          injection he with he
          rw [← he, add_block]
          exact hA b rfl h1
    have hA1 : ∀ ad, A = some ad → 0 < (xs.take n).length → ad.block < g := fun ad he h0 => hA ad he (by omega)
    obtain ⟨B, hB⟩ : ∃ B, (if c = n then A else A.map (·.add (n * 1))) = B := ⟨_, rfl⟩
    rw [hB] at hcut2 hCd hA2
    have X0 := blk_set hX 0 (.slice B (xs.length - n) (c - n))
    have HX0 := hide X0
    have HT := hide ht
    have HD := hide hd
    have HCT := hide (Kd.C_keep 0 hCt (Ks.set g w 0 (.slice B (xs.length - n) (c - n))).keep (fun ad he h0 => Nat.ne_of_lt (hA1 ad he h0)))
    have HCD := hide (Kd.C_keep 0 hCd (Ks.set g w 0 (.slice B (xs.length - n) (c - n))).keep (fun ad he h0 => Nat.ne_of_lt (hA2 ad he h0)))
    have HA2 := hide hA2
    have HC := hide hc
    have HNL := hide hl
    clear hC hX X0 e hA hCt hCd ht hd hA2 hA1 hB hi0 hsz0 hc
    go_enter Tryd.func50, Tryd.ntmps50
    go_wp2_with fail
    go_ret
    refine ⟨A, c, ?_, HCT.out, ⟨B, c - n, ?_, HCD.out, ?_, HA2.out⟩, Ks.set g w 0 _⟩
    · show Ending.returned (.slice A n c) = .returned (.slice A (xs.take n).length c)
      rw [HT.out]
    · show (w.setCell ⟨g, 0, none⟩ (.slice B (xs.length - n) (c - n))).heap[g]? = some (.cells #[.slice B (xs.drop n).length (c - n), .bool q] 73 (0, 0))
      rw [HD.out]; exact HX0.out
    · have := HD.out; have := HC.out; show (xs.drop n).length ≤ c - n; omega
/-- What number hands back. -/
def NumP (w : World) (g : Nat) (r : Int × Rs) (e : Ending) (w' : World) : Prop := e = .returned (.int .i64 r.1) ∧ Rdr w' g r.2 ∧ Ks g w w'
theorem p256 : ∀ n : Nat, n ≤ 3 → (256 : Int) ^ n ≤ 16777216
  | 0, _ => by decide
  | 1, _ => by decide
  | 2, _ => by decide
  | 3, _ => by decide
  | n + 4, h => by omega
theorem or8 (m y : Int) (h0 : 0 ≤ m) (h1 : m < 16777216) (h2 : 0 ≤ y) (h3 : y < 256) : bits BinOp.or IntKind.i64 (m * 256) y = m * 256 + y := by
  obtain ⟨a, rfl⟩ := Int.eq_ofNat_of_zero_le h0
  obtain ⟨b, rfl⟩ := Int.eq_ofNat_of_zero_le h2
  have e1 : (a : Int) * 256 = ((a * 256 : Nat) : Int) := by omega
  rw [e1]
  show IntKind.i64.wrap ((BitVec.ofInt 64 ((a * 256 : Nat) : Int) ||| BitVec.ofInt 64 (b : Int)).toNat : Int) = _
  have h := Nat.two_pow_add_eq_or_of_lt (i := 8) (b := b) (by omega) a
  rw [BitVec.toNat_or, BitVec.ofInt_natCast, BitVec.ofInt_natCast, BitVec.toNat_ofNat, BitVec.toNat_ofNat, Nat.mod_eq_of_lt (by omega), Nat.mod_eq_of_lt (by omega), show a * 256 = 2 ^ 8 * a from by omega, ← h]
  rw [IntWalk.i64_in _ (by omega)]
  omega
theorem bnum_take (xs : List Int) (k : Nat) (h : k < xs.length) : bnum (xs.take (k + 1)) = bnum (xs.take k) * 256 + xs[k] := by
  rw [List.take_succ_eq_append_getElem h, bnum_snoc]
set_option maxHeartbeats 4000000 in
set_option maxRecDepth 100000 in
theorem number (w : World) (g : Nat) (s : Rs) (n : Nat) (h : Rdr w g s) (hb : Byt s.1) (hn : n ≤ 4) : Calls Tryd.prog 45 #[.pointer (some ⟨g, 0, none⟩), .int .i64 (n : Int)] w (NumP w g (numL s n)) := by
  have HR := hide (raw w g s n h (by omega))
  have hbt : Byt (rawL s n).1 := by
    unfold rawL
    split
    · intro x hx; cases hx
    · exact fun x hx => hb x (List.mem_of_mem_take hx)
  have hlen : (rawL s n).1.length ≤ 4 := by
    unfold rawL
    split
    · decide
    · rw [List.length_take]; omega
  have e : numL s n = (bnum (rawL s n).1, (rawL s n).2) := rfl
  rw [e]
  obtain ⟨⟨xs, s'⟩, hr⟩ : ∃ r, rawL s n = r := ⟨_, rfl⟩
  rw [hr] at HR hbt hlen ⊢
  dsimp only at hbt hlen ⊢
  have HB := hide hbt
  clear h hb e hr hbt
  go_enter Tryd.func45, Tryd.ntmps45
  go_wp2_with fail
  refine HR.out.mono ?_
  rintro e w1 ⟨A, c, rfl, hC, hR, hK⟩
  dsimp only
  have HC := hide hC
  have HRd := hide hR
  have HK := hide hK
  clear hC hR hK HR
  dsimp only at HC
  go_wp2_with fail
  go_loop [5, 12] (fun v i => ∃ k : Nat, k ≤ xs.length ∧ i = .int .i64 (k : Int) ∧ v = .int .i64 (bnum (xs.take k))) (fun _ i => xs.length - (intOf i).toNat)
  case atStart => exact ⟨0, Nat.zero_le _, rfl, rfl⟩
  case round =>
    obtain ⟨k, hk, rfl, rfl⟩ := hrel
    by_cases hlt : k < xs.length
    · obtain ⟨ad, rfl, hcc⟩ := HC.out.2.2 (by omega)
      obtain ⟨cs, -, hcK, hcell⟩ := hcc k xs[k] (List.getElem?_eq_getElem hlt)
      have hcs : cs = [.int .u8 xs[k]] := hcK
      have hx : w1.cell? (ad.add k) = some (.int .u8 xs[k]) := by
        have := hcell 0 (.int .u8 xs[k]) (by rw [hcs]; rfl)
        rw [show k * kB.sz + 0 = k from by show k * 1 + 0 = k; omega] at this
        exact this
      have hxb := HB.out xs[k] (List.getElem_mem hlt)
      have hbn := bnum_range (xs.take k) (fun x hx => HB.out x (List.mem_of_mem_take hx))
      have hst := bnum_take xs k hlt
      obtain ⟨y, hy⟩ : ∃ y, xs[k] = y := ⟨_, rfl⟩
      rw [hy] at hx hxb hst
      obtain ⟨m, hm⟩ : ∃ m, bnum (xs.take k) = m := ⟨_, rfl⟩
      rw [hm] at hbn hst ⊢
      have HST := hide hst
      clear hcc hcell hcK hcs hst hy hm
      have hk3 : (xs.take k).length ≤ 3 := by rw [List.length_take]; omega
      have hm24 : m < 16777216 := by
        have h1 := p256 _ hk3
        omega
      have hor := or8 m y hbn.1 hm24 hxb.1 hxb.2
      have HOR := hide hor
      clear hor hk3
      go_wp2_with fail
      rw [HOR.out, ← HST.out]
      go_round
      case rel => exact ⟨k + 1, by omega, by go_num, rfl⟩
      case measure => simp only [intOf]; omega
    · have hkk : k = xs.length := by omega
      go_wp2_with fail
      go_ret
      exact ⟨rfl, HRd.out, HK.out⟩
/-- What text hands back. -/
def TxtP (w : World) (g : Nat) (r : ByteArray × Rs) (e : Ending) (w' : World) : Prop := e = .returned (.string r.1) ∧ Rdr w' g r.2 ∧ Ks g w w'
set_option maxHeartbeats 4000000 in
set_option maxRecDepth 100000 in
theorem rtext (w : World) (g : Nat) (s : Rs) (h : Rdr w g s) (hb : Byt s.1) : Calls Tryd.prog 46 #[.pointer (some ⟨g, 0, none⟩)] w (TxtP w g (txtL s)) := by
  have HN := hide (number w g s 3 h hb (by omega))
  have hbt : 0 ≤ (numL s 3).1 ∧ (numL s 3).1 < 16777216 := by
    have h1 : Byt (rawL s 3).1 := by
      unfold rawL
      split
      · intro x hx; cases hx
      · exact fun x hx => hb x (List.mem_of_mem_take hx)
    have h2 : (rawL s 3).1.length ≤ 3 := by
      unfold rawL
      split
      · decide
      · rw [List.length_take]; omega
    have h3 := bnum_range _ h1
    have h4 := p256 _ h2
    exact ⟨h3.1, by show bnum _ < _; omega⟩
  have e : txtL s = (strOfNums (rawL (numL s 3).2 (numL s 3).1.toNat).1, (rawL (numL s 3).2 (numL s 3).1.toNat).2) := rfl
  rw [e]
  obtain ⟨⟨n, s'⟩, hr⟩ : ∃ r, numL s 3 = r := ⟨_, rfl⟩
  rw [hr] at HN hbt ⊢
  dsimp only at hbt ⊢
  obtain ⟨m, rfl⟩ := Int.eq_ofNat_of_zero_le hbt.1
  try rw [Int.toNat_natCast]
  have hm4 := hbt.2
  have HRAW := hide (fun W (hR : Rdr W g s') => raw W g s' m hR (by omega))
  obtain ⟨⟨xs, s2⟩, hr2⟩ : ∃ r, rawL s' m = r := ⟨_, rfl⟩
  rw [hr2] at HRAW ⊢
  dsimp only
  clear h hb e hr hbt hr2 hm4
  go_enter Tryd.func46, Tryd.ntmps46
  go_wp2_with fail
  refine HN.out.mono ?_
  rintro e w1 ⟨rfl, hR, hK⟩
  dsimp only
  have HR := hide (HRAW.out w1 hR)
  have HK := hide hK
  clear hR hK HN HRAW
  go_wp2_with fail
  refine HR.out.mono ?_
  rintro e w2 ⟨A, c, rfl, hC, hR2, hK2⟩
  dsimp only
  have HR2 := hide hR2
  have HK2 := hide (HK.out.trans hK2)
  have hq : (convert 36 9 (.slice A xs.length c)).run Tryd.prog w2 = .ok (.string (strOfNums xs)) w2 := Kd.C_string Tryd.underlying36 Tryd.underlying5 Tryd.underlying9 hC
  clear hC hR2 hK2 HR
  go_wp2_with fail
  go_ret
  exact ⟨rfl, HR2.out, HK2.out⟩
end Go.Proofs.YtbljbgjecnmeeaaDoor.OpP
namespace Go.Proofs.YtbljbgjecnmeeaaDoor.OpP
open Go.RowKit Go.Proofs.YtbljbgjecnmeeaaDoor.POpTells Go.Proofs.YtbljbgjecnmeeaaDoorW.PrintWords Go.Proofs.YtbljbgjecnmeeaaDoorW.PrintLast Go.Proofs.YtbljbgjecnmeeaaDoorW.PrintMore
set_option linter.unusedVariables false
set_option linter.unusedSimpArgs false
theorem info5R : (Tryd.prog.info? 5).map (fun i => (i.zero, i.size, i.bytes)) = some (some (.int .u8 0), 1, 1) := by kernel_rfl
theorem info5s : (Tryd.prog.info? 5).map (·.size) = some 1 := by kernel_rfl
set_option maxHeartbeats 1000000 in
set_option maxRecDepth 100000 in
theorem cutC (A : Option Addr) (c : Nat) (xs : List Int) (w : World) (hx : xs.length ≤ 9223372036854775807) (hc : xs.length ≤ c) :
    Calls Tryd.prog 20 #[.slice A xs.length c, .int .i64 100] w fun e w' => e = .returned (.slice A (xs.take 100).length c) ∧ w = w' := by
  have hl : (xs.take 100).length = min 100 xs.length := List.length_take
  rw [hl]
  by_cases h : 100 < xs.length
  · obtain ⟨i0, hi0, hsz0⟩ := info5D
    have hcut := cut_to (P := Tryd.prog) 36 5 .i64 Tryd.underlying36 hi0 A xs.length c (100 : Int) (by omega) (by omega) hc
    have e1 : (100 : Int).toNat = 100 := by omega
    rw [e1] at hcut
    have e2 : min 100 xs.length = 100 := by omega
    rw [e2]
    have h' : (100 : Int) < (xs.length : Int) := by omega
    clear hl e1 e2 hi0 hsz0
    go_enter Tryd.func20, Tryd.ntmps20
    go_wp2_with fail
    go_ret
    exact ⟨rfl, rfl⟩
  · have e2 : min 100 xs.length = xs.length := by omega
    rw [e2]
    have h' : ¬ (100 : Int) < (xs.length : Int) := by omega
    clear hl e2
    go_enter Tryd.func20, Tryd.ntmps20
    go_wp2_with fail
    go_ret
    exact ⟨rfl, rfl⟩
/-- So much of the room is marked. -/
def fillL (xs : List Int) (k : Nat) : List Int := xs ++ (List.replicate k 165 ++ List.replicate (80 - k) 0)
def roomyL (xs : List Int) : List Int := xs ++ List.replicate 80 165
theorem fill_len (xs : List Int) (k : Nat) (h : k ≤ 80) : (fillL xs k).length = xs.length + 80 := by unfold fillL; simp; omega
theorem fill_set (xs : List Int) (k : Nat) (h : k < 80) : (fillL xs k).set (xs.length + k) 165 = fillL xs (k + 1) := by
  unfold fillL
  rw [List.set_append_right _ _ (by omega), Nat.add_sub_cancel_left, List.set_append_right _ _ (by simp), List.length_replicate, Nat.sub_self]
  obtain ⟨j, hj⟩ : ∃ j, 80 - k = j + 1 := ⟨79 - k, by omega⟩
  rw [hj, List.replicate_succ, List.set_cons_zero, show 80 - (k + 1) = j by omega, List.replicate_succ', List.append_assoc]
  rfl
theorem fill_end (xs : List Int) : fillL xs 80 = roomyL xs := by unfold fillL roomyL; simp
theorem roomyL_length (xs : List Int) : (roomyL xs).length = xs.length + 80 := by unfold roomyL; simp
/-- What Roomy hands back. -/
def RmP (w : World) (xs : List Int) (e : Ending) (w' : World) : Prop := ∃ A c, e = .returned (.slice A (xs.length + 80) c) ∧ xs.length + 80 ≤ c ∧ kB.C w' A (xs.length + 80) (roomyL xs) ∧ Below w.heap.size w w'
set_option maxHeartbeats 4000000 in
set_option maxRecDepth 100000 in
theorem roomyC (A : Option Addr) (c : Nat) (xs : List Int) (w : World) (hC : kB.C w A xs.length xs) (hc : xs.length ≤ c) (hl : xs.length ≤ 1000000000) :
    Calls Tryd.prog 21 #[.slice A xs.length c, .int .u8 165] w (RmP w xs) := by
  have HX := hide hC
  clear hC
  have e80 : ((xs.length : Int) + 80).toNat = xs.length + 80 := by omega
  go_enter Tryd.func21, Tryd.ntmps21
  go_wp2_with (first
    | ((with_reducible refine gate_dst (N := 10) rfl ?_); refine Kd.R_make kB (w0 := w) w.heap.size 5 rfl (N := 10) rfl 36 (.tmp 9) (.tmp 9) rfl ((xs.length : Int) + 80) rfl rfl Tryd.underlying36 (.int .u8 0) 1 info5R rfl (by decide) (by decide) (0 : Int) (ok := fun _ => True) (okp := fun _ => False) rfl (fun k hk => hk.elim) trivial (by omega) (by rw [e80]; omega) (Below.refl _ _) (Nat.le_refl _) ?_; intro v1 w2 ho hb hg hnew; rw [e80] at ho; clear hg hnew; obtain ⟨g, cap, rfl, hgb, -, -⟩ := Kd.R_form ho (by simp); rw [List.length_replicate] at ho ⊢; have HO := hide ho; have HB := hide hb; have HGB := hide hgb; clear ho hb hgb)
    | ((with_reducible refine gate_dst (N := 13) rfl ?_); refine Kd.R_copy (0 : Int) (w0 := w) w.heap.size rfl (.tmp 11) (.tmp 12) 36 36 5 rfl Tryd.underlying36 info5s (.slice (some ⟨g, 0, none⟩) (xs.length + 80) cap) (List.replicate (xs.length + 80) 0) xs A xs.length c (fun _ => True) rfl rfl HO.out (Kd.C_below HX.out HB.out) HB.out HB.out.size ?_; intro w3 ho hb hg; have HO3 := hide ho; have HB3 := hide hb; clear ho hb hg))
  have hf0 : xs.take (min xs.length (List.replicate (xs.length + 80) (0 : Int)).length) ++ (List.replicate (xs.length + 80) (0 : Int)).drop (min xs.length (List.replicate (xs.length + 80) (0 : Int)).length) = fillL xs 0 := by
    have e1 : min xs.length (List.replicate (xs.length + 80) (0 : Int)).length = xs.length := by rw [List.length_replicate]; omega
    rw [e1, List.take_length]
    unfold fillL
    simp
  have HO4 := hide (hf0 ▸ HO3.out)
  clear hf0 HO3 HO HB HX
  obtain ⟨n, hn⟩ : ∃ n, xs.length = n := ⟨_, rfl⟩
  have HN := hide hn
  rw [hn] at hl e80 HO4 ⊢
  clear hn
  go_loopw [6] (fun i wr => ∃ j : Nat, n ≤ j ∧ j ≤ n + 80 ∧ i = .int .i64 j ∧ Aside0 (Kd.R kB 5 wr w.heap.size (fun _ => True) (.slice (some ⟨g, 0, none⟩) (n + 80) cap) (fillL xs (j - n))) ∧ Aside0 (Below w.heap.size w wr)) (fun i _ => n + 80 - (intOf i).toNat)
  case atStart => exact ⟨n, by omega, by omega, rfl, ⟨by rw [Nat.sub_self]; exact HO4.out⟩, ⟨HB3.out⟩⟩
  case round =>
    clear HO4 HB3
    obtain ⟨j, hj1, hj2, rfl, HO, HB⟩ := hrel
    by_cases hlt : j < n + 80
    · have hlen := fill_len xs (j - n) (by omega)
      rw [HN.out] at hlen
      have hset := fill_set xs (j - n) (by omega)
      rw [HN.out, show n + (j - n) = j by omega, show j - n + 1 = j + 1 - n by omega] at hset
      have HS := hide hset
      obtain ⟨g', cap', ev, _, hglt, cells, hcells⟩ := Kd.R_form HO.out (by rw [hlen]; omega)
      injection ev with ev1 ev2 ev3
      injection ev1 with ev1
      injection ev1 with ev1
      subst ev1
      obtain ⟨ad, hA, hcc⟩ := (Kd.R_reads' HO.out).2.2.2.2 (by rw [hlen]; omega)
      injection hA with hA
      subst hA
      obtain ⟨cs, -, hK, hcell⟩ := hcc j (fillL xs (j - n))[j] (List.getElem?_eq_getElem (by rw [hlen]; omega))
      have hcs : cs = [.int .u8 (fillL xs (j - n))[j]] := hK
      have hx := hcell 0 (.int .u8 (fillL xs (j - n))[j]) (by rw [hcs]; rfl)
      rw [show j * kB.sz + 0 = j from by show j * 1 + 0 = j; omega, show (⟨g, 0, none⟩ : Addr).add j = ⟨g, j, none⟩ from by rw [add_at, Nat.zero_add]] at hx
      obtain ⟨y, hy⟩ : ∃ y, (fillL xs (j - n))[j] = y := ⟨_, rfl⟩
      rw [hy] at hx
      have hfz := blk_frozen hcells j
      have k1 : (j : Int) < (n + 80 : Nat) := by omega
      have k2 : (j : Int) < (n : Int) + 80 := by omega
      have k3 : (0 : Int) ≤ (j : Int) := by omega
      clear hset hlen hcells ev2 ev3 hcc hK hcell hcs hy
      go_wp2_with fail
      go_roundw
      case rel =>
        have hrow := Kd.R_putn HO.out (j : Int) (165 : Int)
        rw [Int.toNat_natCast, HS.out] at hrow
        exact ⟨j + 1, by omega, by omega, by go_num, ⟨hrow⟩, ⟨HB.out.setCell HGB.out _⟩⟩
      case measure => simp only [intOf]; omega
    · have hj : j = n + 80 := by omega
      subst hj
      have HO1 := HO.out
      rw [show n + 80 - n = 80 by omega, fill_end] at HO1
      have HO2 := hide HO1
      have HB2 := hide HB.out
      have k2 : ¬ ((n + 80 : Nat) : Int) < (n : Int) + 80 := by omega
      clear HO1 HO HB
      go_wp2_with fail
      go_ret
      obtain ⟨h1, h2, h3⟩ := Kd.R_reads' HO2.out
      refine ⟨some ⟨g, 0, none⟩, cap, ?_, ?_, ?_, HB2.out⟩
      · rw [HN.out]; rfl
      · rw [HN.out]; exact h2
      · rw [HN.out, h1]; exact h3
theorem same_loop (xs : List Int) (hn : xs.length ≤ 9223372036854775807) : ∀ (d i k : Nat), xs.length - i = d → i ≤ xs.length → d < k → POpBack.arbourbook_Same_byte.l0 k xs xs (i : Int) = some true
  | 0, i, k, hd, hi, hk => by
    obtain ⟨k, rfl⟩ : ∃ m, k = m + 1 := ⟨k - 1, by omega⟩
    rw [POpBack.arbourbook_Same_byte.l0, if_neg (by omega)]
  | d + 1, i, k, hd, hi, hk => by
    obtain ⟨k, rfl⟩ : ∃ m, k = m + 1 := ⟨k - 1, by omega⟩
    have ew : wrap64 ((i : Int) + 1) = ((i + 1 : Nat) : Int) := by unfold wrap64; omega
    rw [POpBack.arbourbook_Same_byte.l0, if_pos (by omega), if_pos (by omega), if_pos (by omega), if_pos rfl, ew]
    exact same_loop xs hn d (i + 1) k (by omega) (by omega) (by omega)
theorem same_refl (xs : List Int) (hn : xs.length ≤ 9223372036854775807) : POpBack.arbourbook_Same_byte.f (xs.length + 1) xs xs = some true := by
  unfold POpBack.arbourbook_Same_byte.f
  rw [if_pos rfl]
  exact same_loop xs hn xs.length 0 (xs.length + 1) (by omega) (by omega) (by omega)
set_option maxHeartbeats 4000000 in
set_option maxRecDepth 100000 in
theorem intactC (A F : Option Addr) (c cf : Nat) (xs : List Int) (w : World) (hC : kB.C w A xs.length xs) (hc : xs.length ≤ c) (hF : kB.C w F (xs.length + 80) (roomyL xs)) (hf : xs.length + 80 ≤ cf) (hl : xs.length ≤ 1000000000) :
    Calls Tryd.prog 22 #[.slice F (xs.length + 80) cf, .slice A xs.length c, .int .u8 165] w fun e w' => e = .returned (.bool true) ∧ Below w.heap.size w w' := by
  have hF2 : kB.C w F (roomyL xs).length (roomyL xs) := by rw [roomyL_length]; exact hF
  have ht := Kd.C_take (m := xs.length) hF2 (by rw [roomyL_length]; omega)
  have et : (roomyL xs).take xs.length = xs := by unfold roomyL; simp
  rw [et] at ht
  have HS := hide (fun W (hb : Below w.heap.size w W) => POpBack.arbourbook_Same_byte.calls (xs.length + 1) F cf xs A c xs true W (Kd.C_below ht hb) (by omega) (Kd.C_below hC hb) hc (same_refl xs (by omega)))
  obtain ⟨i0, hi0, hsz0⟩ := info5D
  have hcut := cut_to (P := Tryd.prog) 36 5 .i64 Tryd.underlying36 hi0 F (xs.length + 80) cf (xs.length : Int) (by omega) (by omega) hf
  rw [Int.toNat_natCast] at hcut
  have hrl := roomyL_length xs
  have hrx : ∀ j, xs.length ≤ j → j < xs.length + 80 → (roomyL xs)[j]? = some 165 := by
    intro j hj h
    unfold roomyL
    rw [List.getElem?_append_right hj, List.getElem?_replicate, if_pos (by omega)]
  have HRX := hide hrx
  have HF := hide hF2
  obtain ⟨n, hn⟩ : ∃ n, xs.length = n := ⟨_, rfl⟩
  rw [hn] at HS hcut hl hrl HRX ⊢
  have HRL := hide hrl
  clear hC hc hF hf hF2 ht et hi0 hsz0 hrl hrx hn
  go_enter Tryd.func22, Tryd.ntmps22
  go_wp2_with fail
  refine (HS.out w (Below.refl _ _)).mono ?_
  rintro e w1 ⟨rfl, hb1⟩
  dsimp only
  have hb2 : Below w.heap.size w w1 := by
    obtain ⟨nq, rfl⟩ := hb1
    exact pw_below_drewN (Below.refl _ _) _
  have HB := hide hb2
  have HF1 := hide (Kd.C_below HF.out hb2)
  clear hb1 hb2 HS HF
  go_wp2_with fail
  go_loop [7] (fun i => ∃ j : Nat, n ≤ j ∧ j ≤ n + 80 ∧ i = .int .i64 j) (fun i => n + 80 - (intOf i).toNat)
  case atStart => exact ⟨n, by omega, by omega, rfl⟩
  case round =>
    obtain ⟨j, hj1, hj2, rfl⟩ := hrel
    by_cases hlt : j < n + 80
    · obtain ⟨ad, rfl, hcc⟩ := HF1.out.2.2 (by rw [HRL.out]; omega)
      obtain ⟨cs, -, hK, hcell⟩ := hcc j 165 (HRX.out j hj1 hlt)
      have hcs : cs = [.int .u8 165] := hK
      have hx := hcell 0 (.int .u8 165) (by rw [hcs]; rfl)
      rw [show j * kB.sz + 0 = j from by show j * 1 + 0 = j; omega] at hx
      have k1 : (j : Int) < (n + 80 : Nat) := by omega
      have k2 : (j : Int) < (n : Int) + 80 := by omega
      have k3 : (0 : Int) ≤ (j : Int) := by omega
      clear hcc hK hcell hcs
      go_wp2_with fail
      go_round
      case rel => exact ⟨j + 1, by omega, by omega, by go_num⟩
      case measure => simp only [intOf]; omega
    · have k2 : ¬ (j : Int) < (n : Int) + 80 := by omega
      go_wp2_with fail
      go_ret
      exact ⟨rfl, HB.out⟩
end Go.Proofs.YtbljbgjecnmeeaaDoor.OpP
namespace Go.Proofs.YtbljbgjecnmeeaaDoor.OpP
open Go.RowKit Go.Proofs.YtbljbgjecnmeeaaDoor.POpTells Go.Proofs.YtbljbgjecnmeeaaDoorW.PrintWords Go.Proofs.YtbljbgjecnmeeaaDoorW.PrintLast
set_option linter.unusedVariables false
set_option linter.unusedSimpArgs false
theorem Rdr.drew {w : World} {g : Nat} {s : Rs} (h : Rdr w g s) : Rdr w.drew g s := h.below (Below.drew (Below.refl _ _))
theorem Rdr.drewN {w : World} {g : Nat} {s : Rs} (h : Rdr w g s) (n : Nat) : Rdr (w.drewN n) g s := h.below (pw_below_drewN (Below.refl _ _) n)
theorem Ks.drew (g : Nat) (w : World) : Ks g w w.drew := Ks.of_below (Below.drew (Below.refl _ _))
theorem Ks.drewN (g : Nat) (w : World) (n : Nat) : Ks g w (w.drewN n) := Ks.of_below (pw_below_drewN (Below.refl _ _) n)
theorem Rdr.lt {w : World} {g : Nat} {s : Rs} (h : Rdr w g s) : g < w.heap.size := by
  obtain ⟨A, c, h1, -⟩ := h
  exact blk_lt h1
theorem Ks.cell {g : Nat} {w w' : World} (h : Ks g w w') {k : Nat} {o : Obj} (hb : w.heap[k]? = some o) (hk : k ≠ g) : w'.heap[k]? = some o := (h.blk k (blk_lt hb) hk).trans hb
theorem p2 : ∀ n : Nat, n ≤ 2 → (256 : Int) ^ n ≤ 65536
  | 0, _ => by decide
  | 1, _ => by decide
  | 2, _ => by decide
  | n + 3, h => by omega
theorem num2 {s : Rs} (hb : Byt s.1) : 0 ≤ (numL s 2).1 ∧ (numL s 2).1 ≤ 65535 := by
  have h1 : Byt (rawL s 2).1 := by
    unfold rawL
    split
    · intro x hx; cases hx
    · exact fun x hx => hb x (List.mem_of_mem_take hx)
  have h2 : (rawL s 2).1.length ≤ 2 := by
    unfold rawL
    split
    · decide
    · rw [List.length_take]; omega
  have h3 := bnum_range _ h1
  have h4 := p2 _ h2
  exact ⟨h3.1, by show bnum _ ≤ _; omega⟩
theorem infoA : (Tryd.prog.info? 32).map (fun i => (i.zero, i.size, i.bytes)) = some (some (.agg #[.string ⟨#[]⟩, .string ⟨#[]⟩]), 2, 32) := by kernel_rfl
theorem blk_alloc1 {w : World} {g : Nat} {o : Obj} (h : w.heap[g]? = some o) (o' : Obj) : (w.alloc o').heap[g]? = some o := ((below_alloc (Below.refl w.heap.size w) o').block _ (blk_lt h)).trans h
/-- What one hands back. -/
def OneP (w : World) (g : Nat) (r : S24 × Rs) (e : Ending) (w' : World) : Prop := ∃ v7, e = .returned (opV r.1 v7) ∧ k32.R 32 w' w.heap.size (fun _ => True) v7 r.1.f7 ∧ Rdr w' g r.2 ∧ Ks g w w'
/-- At the head of the loop over the attributes. -/
def OneRel (wA : World) (g g3 H0 : Nat) (n0 n1 n2 n3 n4 n5 : Int) (t6 : ByteArray) (l7 : List S32) (S9 : Rs) (j : Nat) (wr : World) : Prop := ∃ (acc : List S32) (S : Rs) (v7 : Value), wr.heap[g3]? = some (.cells #[.int .i64 n0, .int .i64 n1, .int .i64 n2, .int .i64 n3, .int .i64 n4, .int .i64 n5, .string t6, v7, .string ⟨#[]⟩] 24 (0, 0)) ∧ k32.R 32 wr wA.heap.size (fun _ => True) v7 acc ∧ Rdr wr g S ∧ Byt S.1 ∧ Ks g wA wr ∧ attrsL j S acc = (l7, S9) ∧ acc.length + j ≤ 65535 ∧ wr.heap[H0]? = some (.cells #[.int .i64 0, .int .i64 0, .int .i64 0, .int .i64 0, .int .i64 0, .int .i64 0, .string ⟨#[]⟩, .slice none 0 0, .string ⟨#[]⟩] 24 (0, 0))
theorem Ks.set9 {g H0 : Nat} {w w1 : World} (h : Ks g w w1) (hH : w.heap.size ≤ H0) (v0 v1 v2 v3 v4 v5 v6 v7 v8 : Value) : Ks g w (set9 w1 H0 v0 v1 v2 v3 v4 v5 v6 v7 v8) := by
  have b := set9_below (Below.refl w.heap.size w1) hH v0 v1 v2 v3 v4 v5 v6 v7 v8
  exact ⟨b.os.trans h.os, b.tape.trans h.tape, b.output.trans h.output, Nat.le_trans h.size b.size, fun k hk hg => (b.block k hk).trans (h.blk k hk hg)⟩
theorem Rdr.set9 {g H0 : Nat} {w1 : World} {s : Rs} (h : Rdr w1 g s) (hH : g < H0) (v0 v1 v2 v3 v4 v5 v6 v7 v8 : Value) : Rdr (set9 w1 H0 v0 v1 v2 v3 v4 v5 v6 v7 v8) g s := h.up (set9_below (Below.refl (g + 1) w1) hH v0 v1 v2 v3 v4 v5 v6 v7 v8)
/-- One attribute more has been read. -/
theorem one_next {wA wr wn2 w3 : World} {g g3 H0 : Nat} {n0 n1 n2 n3 n4 n5 : Int} {t6 : ByteArray} {l7 acc : List S32} {S9 Sb : Rs} {j : Nat} {v7 v1 : Value} {x : S32} (hg : g < wA.heap.size) (hg3 : wA.heap.size ≤ g3) (hH : H0 < wA.heap.size) (hHg : H0 ≠ g)
    (hX : wr.heap[g3]? = some (.cells #[.int .i64 n0, .int .i64 n1, .int .i64 n2, .int .i64 n3, .int .i64 n4, .int .i64 n5, .string t6, v7, .string ⟨#[]⟩] 24 (0, 0))) (hR : k32.R 32 wr wA.heap.size (fun _ => True) v7 acc) (hK : Ks g wA wr) (hZ : wr.heap[H0]? = some (.cells #[.int .i64 0, .int .i64 0, .int .i64 0, .int .i64 0, .int .i64 0, .int .i64 0, .string ⟨#[]⟩, .slice none 0 0, .string ⟨#[]⟩] 24 (0, 0)))
    (hK2 : Ks g wr wn2) (hRd : Rdr wn2 g Sb) (hBy : Byt Sb.1) (hr3 : k32.R 32 w3 wA.heap.size (fun _ => True) v1 (acc ++ [x])) (hgr : wn2.grownBy w3 v7.ownBlock) (hbn : Below wA.heap.size wn2 w3)
    (hat : attrsL j Sb (acc ++ [x]) = (l7, S9)) (hal : acc.length + (j + 1) ≤ 65535) : OneRel wA g g3 H0 n0 n1 n2 n3 n4 n5 t6 l7 S9 j (w3.setCell ⟨g3, 7, none⟩ v1) := by
  have hne : g3 ≠ g := by omega
  have X2 := hK2.cell hX hne
  have Z2 := hK2.cell hZ hHg
  have X3 : w3.heap[g3]? = some (.cells #[.int .i64 n0, .int .i64 n1, .int .i64 n2, .int .i64 n3, .int .i64 n4, .int .i64 n5, .string t6, v7, .string ⟨#[]⟩] 24 (0, 0)) := (hgr.block g3 (blk_lt X2) (Kd.R_ne hR hX (by decide))).trans X2
  have b4 : Below wA.heap.size wn2 (w3.setCell ⟨g3, 7, none⟩ v1) := hbn.setCell hg3 _
  have k4 : Ks g wA (w3.setCell ⟨g3, 7, none⟩ v1) := by
    have k := hK.trans hK2
    exact ⟨b4.os.trans k.os, b4.tape.trans k.tape, b4.output.trans k.output, Nat.le_trans k.size b4.size, fun i hi hgi => (b4.block i hi).trans (k.blk i hi hgi)⟩
  refine ⟨acc ++ [x], Sb, v1, blk_set X3 7 v1, Kd.R_set hr3 X3 (by decide) 7 v1, hRd.up (b4.mono (by omega)), hBy, k4, hat, by rw [List.length_append]; simp; omega, (b4.block H0 hH).trans Z2⟩
set_option maxHeartbeats 20000000 in
set_option maxRecDepth 100000 in
theorem one (w : World) (g : Nat) (s : Rs) (h : Rdr w g s) (hb : Byt s.1) : Calls Tryd.prog 38 #[.pointer (some ⟨g, 0, none⟩)] w (OneP w g (oneL s)) := by
  obtain ⟨⟨n0, S1⟩, e0⟩ : ∃ r, numL s 1 = r := ⟨_, rfl⟩
  obtain ⟨⟨n1, S2⟩, e1⟩ : ∃ r, numL S1 4 = r := ⟨_, rfl⟩
  obtain ⟨⟨n2, S3⟩, e2⟩ : ∃ r, numL S2 4 = r := ⟨_, rfl⟩
  obtain ⟨⟨n3, S4⟩, e3⟩ : ∃ r, numL S3 4 = r := ⟨_, rfl⟩
  obtain ⟨⟨n4, S5⟩, e4⟩ : ∃ r, numL S4 1 = r := ⟨_, rfl⟩
  obtain ⟨⟨n5, S6⟩, e5⟩ : ∃ r, numL S5 1 = r := ⟨_, rfl⟩
  obtain ⟨⟨t6, S7⟩, e6⟩ : ∃ r, txtL S6  = r := ⟨_, rfl⟩
  obtain ⟨⟨m, S8⟩, e7⟩ : ∃ r, numL S7 2 = r := ⟨_, rfl⟩
  obtain ⟨⟨l7, S9⟩, e8⟩ : ∃ r, attrsL m.toNat S8 [] = r := ⟨_, rfl⟩
  obtain ⟨⟨t8, S10⟩, e9⟩ : ∃ r, txtL S9 = r := ⟨_, rfl⟩
  rw [oneL_of e0 e1 e2 e3 e4 e5 e6 e7 e8 e9]
  have b0 := hb
  have b1 : Byt S1.1 := by have := numL_byt (s := s) 1 b0; rw [e0] at this; exact this
  have b2 : Byt S2.1 := by have := numL_byt (s := S1) 4 b1; rw [e1] at this; exact this
  have b3 : Byt S3.1 := by have := numL_byt (s := S2) 4 b2; rw [e2] at this; exact this
  have b4 : Byt S4.1 := by have := numL_byt (s := S3) 4 b3; rw [e3] at this; exact this
  have b5 : Byt S5.1 := by have := numL_byt (s := S4) 1 b4; rw [e4] at this; exact this
  have b6 : Byt S6.1 := by have := numL_byt (s := S5) 1 b5; rw [e5] at this; exact this
  have b7 : Byt S7.1 := by have := txtL_byt (s := S6)  b6; rw [e6] at this; exact this
  have b8 : Byt S8.1 := by have := numL_byt (s := S7) 2 b7; rw [e7] at this; exact this
  have hm : 0 ≤ m ∧ m ≤ 65535 := by have := num2 b7; rw [e7] at this; exact this
  obtain ⟨jm, rfl⟩ := Int.eq_ofNat_of_zero_le hm.1
  have e8' : attrsL jm S8 [] = (l7, S9) := e8
  have hjm : jm ≤ 65535 := by omega
  have HN0 := hide (fun W (hR : Rdr W g s) => number W g s 1 hR b0 (by omega))
  rw [e0] at HN0
  have HN1 := hide (fun W (hR : Rdr W g S1) => number W g S1 4 hR b1 (by omega))
  rw [e1] at HN1
  have HN2 := hide (fun W (hR : Rdr W g S2) => number W g S2 4 hR b2 (by omega))
  rw [e2] at HN2
  have HN3 := hide (fun W (hR : Rdr W g S3) => number W g S3 4 hR b3 (by omega))
  rw [e3] at HN3
  have HN4 := hide (fun W (hR : Rdr W g S4) => number W g S4 1 hR b4 (by omega))
  rw [e4] at HN4
  have HN5 := hide (fun W (hR : Rdr W g S5) => number W g S5 1 hR b5 (by omega))
  rw [e5] at HN5
  have HN6 := hide (fun W (hR : Rdr W g S6) => rtext W g S6 hR b6)
  rw [e6] at HN6
  have HN7 := hide (fun W (hR : Rdr W g S7) => number W g S7 2 hR b7 (by omega))
  rw [e7] at HN7
  have HE8 := hide e8'
  have HB8 := hide b8
  have hgA := heap_alloc_new w (.cells #[.int .i64 0, .int .i64 0, .int .i64 0, .int .i64 0, .int .i64 0, .int .i64 0, .string ⟨#[]⟩, .slice none 0 0, .string ⟨#[]⟩] 24)
  have bA := below_alloc (Below.refl w.heap.size w) (.cells #[.int .i64 0, .int .i64 0, .int .i64 0, .int .i64 0, .int .i64 0, .int .i64 0, .string ⟨#[]⟩, .slice none 0 0, .string ⟨#[]⟩] 24)
  have hlt := h.lt
  have HE9 := hide e9
  obtain ⟨wA, hwA⟩ : ∃ x, w.alloc (.cells #[.int .i64 0, .int .i64 0, .int .i64 0, .int .i64 0, .int .i64 0, .int .i64 0, .string ⟨#[]⟩, .slice none 0 0, .string ⟨#[]⟩] 24) = x := ⟨_, rfl⟩
  rw [hwA] at hgA bA
  have hszA : wA.heap.size = w.heap.size + 1 := by rw [← hwA]; simp
  have HSZ := hide hszA
  obtain ⟨H0, hH0⟩ : ∃ x, w.heap.size = x := ⟨_, rfl⟩
  rw [hH0] at hgA hlt
  have HH0 := hide hH0
  have HZ := hide hgA
  have HLT := hide hlt
  have HWA := hide hwA
  have HBA := hide bA
  have HRd0 := hide (h.below bA)
  have HK0 := hide (Ks.refl g wA)
  clear e0 e1 e2 e3 e4 e5 e6 e7 e8 e9 e8' hgA bA hlt hszA hH0 hwA h hb b0 b1 b2 b3 b4 b5 b6 b7 b8 hm
  go_enter Tryd.func38, Tryd.ntmps38
  go_wp2_with fail
  rw [HWA.out, HH0.out]
  refine (HN0.out _ HRd0.out).mono ?_
  rintro e w1 ⟨rfl, hR, hK⟩
  dsimp only at hR ⊢
  have HRd1 := hide hR
  have HK1 := hide (HK0.out.trans hK)
  clear hR hK HN0 HRd0 HK0
  go_wp2_with fail
  refine (HN1.out _ HRd1.out).mono ?_
  rintro e w2 ⟨rfl, hR, hK⟩
  dsimp only at hR ⊢
  have HRd2 := hide hR
  have HK2 := hide (HK1.out.trans hK)
  clear hR hK HN1 HRd1 HK1
  go_wp2_with fail
  refine (HN2.out _ HRd2.out).mono ?_
  rintro e w3 ⟨rfl, hR, hK⟩
  dsimp only at hR ⊢
  have HRd3 := hide hR
  have HK3 := hide (HK2.out.trans hK)
  clear hR hK HN2 HRd2 HK2
  go_wp2_with fail
  refine (HN3.out _ HRd3.out).mono ?_
  rintro e w4 ⟨rfl, hR, hK⟩
  dsimp only at hR ⊢
  have HRd4 := hide hR
  have HK4 := hide (HK3.out.trans hK)
  clear hR hK HN3 HRd3 HK3
  go_wp2_with fail
  refine (HN4.out _ HRd4.out).mono ?_
  rintro e w5 ⟨rfl, hR, hK⟩
  dsimp only at hR ⊢
  have HRd5 := hide hR
  have HK5 := hide (HK4.out.trans hK)
  clear hR hK HN4 HRd4 HK4
  go_wp2_with fail
  refine (HN5.out _ HRd5.out).mono ?_
  rintro e w6 ⟨rfl, hR, hK⟩
  dsimp only at hR ⊢
  have HRd6 := hide hR
  have HK6 := hide (HK5.out.trans hK)
  clear hR hK HN5 HRd5 HK5
  go_wp2_with fail
  refine (HN6.out _ HRd6.out).mono ?_
  rintro e w7 ⟨rfl, hR, hK⟩
  dsimp only at hR ⊢
  have HRd7 := hide hR
  have HK7 := hide (HK6.out.trans hK)
  clear hR hK HN6 HRd6 HK6
  have hg3n := heap_alloc_new w7 (.cells #[.int .i64 n0, .int .i64 n1, .int .i64 n2, .int .i64 n3, .int .i64 n4, .int .i64 n5, .string t6, .slice none 0 0, .string ⟨#[]⟩] 24)
  have b3n := below_alloc (Below.refl w7.heap.size w7) (.cells #[.int .i64 n0, .int .i64 n1, .int .i64 n2, .int .i64 n3, .int .i64 n4, .int .i64 n5, .string t6, .slice none 0 0, .string ⟨#[]⟩] 24)
  obtain ⟨wo, hwo⟩ : ∃ x, w7.alloc (.cells #[.int .i64 n0, .int .i64 n1, .int .i64 n2, .int .i64 n3, .int .i64 n4, .int .i64 n5, .string t6, .slice none 0 0, .string ⟨#[]⟩] 24) = x := ⟨_, rfl⟩
  rw [hwo] at hg3n b3n
  obtain ⟨g3, hg3⟩ : ∃ x, w7.heap.size = x := ⟨_, rfl⟩
  have HG3 := hide hg3
  have HWO := hide hwo
  have hg3A : wA.heap.size ≤ g3 := by rw [← hg3]; exact HK7.out.size
  rw [hg3] at hg3n
  have HX3 := hide hg3n
  have HGE3 := hide hg3A
  have HRo := hide (HRd7.out.below b3n)
  have HKo := hide (HK7.out.trans (Ks.of_below b3n))
  clear hg3n b3n hwo hg3 hg3A HK7 HRd7
  go_upto_region 2 with fail
  rw [HWO.out, HG3.out]
  go_wp2_with fail
  refine (HN7.out _ HRo.out).mono ?_
  rintro e w8 ⟨rfl, hR, hK⟩
  dsimp only at hR ⊢
  have hlt3 : H0 < g ∨ g < H0 := by have := HLT.out; omega
  have hne3 : g3 ≠ g := by
    have h1 := HLT.out
    have h2 := HGE3.out
    have h3 := HSZ.out
    have h4 := HH0.out
    omega
  have hneH : H0 ≠ g := by have h1 := HLT.out; omega
  have HREL := hide (show OneRel wA g g3 H0 n0 n1 n2 n3 n4 n5 t6 l7 S9 jm w8 from ⟨[], S8, .slice none 0 0, hK.cell HX3.out hne3, Kd.R_nil .., hR, HB8.out, HKo.out.trans hK, HE8.out, by simp; omega, (HKo.out.trans hK).cell HZ.out hneH⟩)
  have HNE3 := hide hne3
  have HNEH := hide hneH
  clear hR hK HN7 HRo HKo HX3 hlt3 hne3 hneH HE8 HB8 hjm
  go_wp2_with fail
  go_loopw [4] (fun v wr => ∃ (vv : Value) (j : Nat), vv = v ∧ v = .int .i64 (j : Int) ∧ j ≤ 65535 ∧ Aside0 (OneRel wA g g3 H0 n0 n1 n2 n3 n4 n5 t6 l7 S9 j wr)) (fun v _ => (intOf v).toNat)
  case atStart => exact ⟨_, jm, rfl, rfl, by have := HREL.out; obtain ⟨_, _, _, _, _, _, _, _, _, h, _⟩ := this; omega, ⟨HREL.out⟩⟩
  case round =>
    clear HREL
    obtain ⟨vv, j, rfl, rfl, hj, hrel⟩ := hrel
    obtain ⟨acc, S, v7, hX, hR, hRd, hBy, hK, hat, hal, hZ⟩ := hrel.out
    obtain ⟨Av, cv, rfl⟩ := Kd.R_slice hR
    have HX := hide hX
    have HR := hide hR
    have HRd := hide hRd
    have HBy := hide hBy
    have HK := hide hK
    have HAT := hide hat
    have HAL := hide hal
    have HZr := hide hZ
    clear hrel hX hR hBy hK hat hal hZ
    obtain ⟨A, c, hG, -, -, -⟩ := hRd
    have cg1 : wr.cell? ⟨g, 1, none⟩ = some (.bool S.2) := cell_of_row _ _ 1 _ _ _ hG
    have HGB := hide hG
    clear hG
    have hbad : S.2 = true ∨ S.2 = false := by cases S.2 <;> simp
    have HGA := hide (show g < wA.heap.size from by have := HLT.out; have := HSZ.out; have := HH0.out; omega)
    have HHA := hide (show H0 < wA.heap.size from by have := HSZ.out; have := HH0.out; omega)
    by_cases hgo : 0 < j ∧ S.2 = false
    · obtain ⟨hj0, hs2⟩ := hgo
      obtain ⟨j, rfl⟩ : ∃ i, j = i + 1 := ⟨j - 1, by omega⟩
      have hat := HAT.out
      rw [attrsL, if_neg (by rw [hs2]; decide)] at hat
      have hb1 : Byt (txtL S).2.1 := txtL_byt HBy.out
      have hb2 : Byt (txtL (txtL S).2).2.1 := txtL_byt hb1
      have HT1 := hide (fun W (hR : Rdr W g S) => rtext W g S hR HBy.out)
      obtain ⟨⟨ta, Sa⟩, ea⟩ : ∃ r, txtL S = r := ⟨_, rfl⟩
      rw [ea] at HT1 hat hb1 hb2
      have HT2 := hide (fun W (hR : Rdr W g Sa) => rtext W g Sa hR hb1)
      obtain ⟨⟨tb, Sb⟩, eb⟩ : ∃ r, txtL Sa = r := ⟨_, rfl⟩
      dsimp only at hat hb1 hb2
      rw [eb] at HT2 hat hb2
      dsimp only at hat hb2
      have HAT2 := hide hat
      have HB2 := hide hb2
      rw [hs2] at cg1
      have hX := HX.out
      have c7 : wr.cell? ⟨g3, 7, none⟩ = some (.slice Av acc.length cv) := cell_of_row _ _ 7 _ _ _ hX
      have HRg := hide (Kd.R_types HR.out HGB.out (by decide))
      have hj1 : ¬ ((j : Int) + 1 = 0) := by omega
      have hj2 : (0 : Int) < (j : Int) + 1 := by omega
      clear hbad hs2 hat hb1 hb2 ea eb hX HBy HAT
      go_upto_region 5 with fail
      refine wp_region_held_drew (S := fun W => True) (by kernel_rfl) trivial (fun _ => ?_)
      refine wpAnyH_take (i := 0) (oi := ?o0x1) (v := ?v0x1) ?ho0x1 (by kernel_rfl) (by kernel_rfl) (by kernel_rfl) ?hQ0x1 (Or.inl ⟨?hw0x1, ?hy0x1⟩) trivial ?_
      case ho0x1 => (simp only [List.getElem?_toArray, List.getElem?_cons_succ, List.getElem?_cons_zero]; try rfl)
      case hQ0x1 => exact fun _ _ _ h => h
      case hw0x1 => rfl
      case hy0x1 => (intro w hSw; go_simp; (first | done | (with_reducible rfl)))
      (try simp only [Act.put, List.setIfInBounds_toArray, List.set_cons_zero, List.set_cons_succ])
      refine wpAnyH_take (i := 2) (oi := ?o2x2) (v := ?v2x2) ?ho2x2 (by kernel_rfl) (by kernel_rfl) (by kernel_rfl) ?hQ2x2 (Or.inl ⟨?hw2x2, ?hy2x2⟩) trivial ?_
      case ho2x2 => (simp only [List.getElem?_toArray, List.getElem?_cons_succ, List.getElem?_cons_zero]; try rfl)
      case hQ2x2 => exact fun _ _ _ h => h
      case hw2x2 => rfl
      case hy2x2 => (intro w hSw; go_simp; (first | done | (with_reducible rfl)))
      (try simp only [Act.put, List.setIfInBounds_toArray, List.set_cons_zero, List.set_cons_succ])
      refine wpAnyH_take (i := 4) (oi := ?o4x3) (v := ?v4x3) ?ho4x3 (by kernel_rfl) (by kernel_rfl) (by kernel_rfl) ?hQ4x3 (Or.inl ⟨?hw4x3, ?hy4x3⟩) trivial ?_
      case ho4x3 => (simp only [List.getElem?_toArray, List.getElem?_cons_succ, List.getElem?_cons_zero]; try rfl)
      case hQ4x3 => exact fun _ _ _ h => h
      case hw4x3 => rfl
      case hy4x3 => (intro w hSw; go_simp; (first | done | (with_reducible rfl)))
      (try simp only [Act.put, List.setIfInBounds_toArray, List.set_cons_zero, List.set_cons_succ])
      refine wpAnyH_ready (rs := [1, 3]) (by kernel_rfl) (by simp) ?_
      refine (AllReadyH.cons (i := 1) (o := ?o1y4) ?ho1y4 (fun K hK => ?_) (AllReadyH.cons (i := 3) (o := ?o3y4) ?ho3y4 (fun K hK => ?_) AllReadyH.nil))
      case ho1y4 => (simp only [List.getElem?_toArray, List.getElem?_cons_succ, List.getElem?_cons_zero]; try rfl)
      case ho3y4 => (simp only [List.getElem?_toArray, List.getElem?_cons_succ, List.getElem?_cons_zero]; try rfl)
      · go_simp
        refine hK.out _ _ trivial (fun _ => ?_)
        clear hK K
        (try simp only [Act.put, List.setIfInBounds_toArray, List.set_cons_zero, List.set_cons_succ])
        refine wpAnyH_ready (rs := [3]) (by kernel_rfl) (by simp) ?_
        refine (AllReadyH.cons (i := 3) (o := ?o3y5) ?ho3y5 (fun K hK => ?_) AllReadyH.nil)
        case ho3y5 => (simp only [List.getElem?_toArray, List.getElem?_cons_succ, List.getElem?_cons_zero]; try rfl)
        · go_simp
          go_at_call 46
          (with_reducible refine (HT1.out _ ?_).mono ?_)
          (repeat (first | exact HRd.out | apply Rdr.drew | apply Rdr.drewN))
          rintro e wn1 ⟨rfl, hr1, hk1⟩
          have hKA := hide (Ks.trans (Ks.drew g wr) hk1)
          have hXA := hKA.out.cell HX.out HNE3.out
          have c7a := cell_of_row _ _ 7 _ _ _ hXA
          clear hXA hk1 c7
          refine hK.out _ _ trivial (fun _ => ?_)
          clear hK K
          (try simp only [Act.put, List.setIfInBounds_toArray, List.set_cons_zero, List.set_cons_succ])
          refine wpAnyH_ready (rs := [5]) (by kernel_rfl) (by simp) ?_
          refine (AllReadyH.cons (i := 5) (o := ?o5y6) ?ho5y6 (fun K hK => ?_) AllReadyH.nil)
          case ho5y6 => (simp only [List.getElem?_toArray, List.getElem?_cons_succ, List.getElem?_cons_zero]; try rfl)
          · go_simp
            go_at_call 46
            (with_reducible refine (HT2.out _ hr1).mono ?_)
            rintro e wn2 ⟨rfl, hr2, hk2⟩
            have hKB := hide (hKA.out.trans hk2)
            have hXB := hKB.out.cell HX.out HNE3.out
            have c7b := cell_of_row _ _ 7 _ _ _ hXB
            have c7c := cell_of_row _ _ 7 _ _ _ (blk_alloc1 hXB (.cells #[.string ta, .string tb] 32))
            clear hXB hk2 c7a
            refine hK.out _ _ trivial (fun _ => ?_)
            clear hK K
            (try simp only [Act.put, List.setIfInBounds_toArray, List.set_cons_zero, List.set_cons_succ])
            refine wpAnyH_take (i := 6) (oi := ?o6x7) (v := ?v6x7) ?ho6x7 (by kernel_rfl) (by kernel_rfl) (by kernel_rfl) ?hQ6x7 (Or.inl ⟨?hw6x7, ?hy6x7⟩) trivial ?_
            case ho6x7 => (simp only [List.getElem?_toArray, List.getElem?_cons_succ, List.getElem?_cons_zero]; try rfl)
            case hQ6x7 => exact fun _ _ _ h => h
            case hw6x7 => rfl
            case hy6x7 => (intro w hSw; go_simp; (first | done | (with_reducible rfl)))
            (try simp only [Act.put, List.setIfInBounds_toArray, List.set_cons_zero, List.set_cons_succ])
            refine wpAnyH_ready (rs := [7]) (by kernel_rfl) (by simp) ?_
            refine (AllReadyH.cons (i := 7) (o := ?o7y8) ?ho7y8 (fun K hK => ?_) AllReadyH.nil)
            case ho7y8 => (simp only [List.getElem?_toArray, List.getElem?_cons_succ, List.getElem?_cons_zero]; try rfl)
            · go_simp
              refine hK.out _ _ trivial (fun _ => ?_)
              clear hK K
              (try simp only [Act.put, List.setIfInBounds_toArray, List.set_cons_zero, List.set_cons_succ])
              refine wpAnyH_ready (rs := [8]) (by kernel_rfl) (by simp) ?_
              refine (AllReadyH.cons (i := 8) (o := ?o8y9) ?ho8y9 (fun K hK => ?_) AllReadyH.nil)
              case ho8y9 => (simp only [List.getElem?_toArray, List.getElem?_cons_succ, List.getElem?_cons_zero]; try rfl)
              · skip
                clear c7b c7c
                refine Kd.R_append_step k32 (w0 := wn2) (W := wn2) wA.heap.size (by rfl) (.tmp 34) (.tmp 40) 22 32 (.agg #[.string ⟨#[]⟩, .string ⟨#[]⟩]) 32 rfl Tryd.underlying22 infoA rfl (by decide) (by decide) (.slice Av acc.length cv) acc ⟨ta, tb⟩ [.string ta, .string tb] (fun _ => True) (fun _ => False) rfl rfl (k32_mkM _ _ _ _) (fun _ h => h.elim) (fun _ _ => trivial) (Kd.R_mono (Kd.R_keep HRg.out hKB.out.keep (fun _ h => h.2)) (fun _ _ => trivial)) (Below.refl _ _) (by have := HK.out.size; have := hKB.out.size; omega) (by have := HAL.out; omega) ?_
                intro v1 w3 hr3 hb3 hgr hown
                have hX3 := (hgr.block g3 (blk_lt (hKB.out.cell HX.out HNE3.out)) (Kd.R_ne HR.out HX.out (by decide))).trans (hKB.out.cell HX.out HNE3.out)
                have c7d := cell_of_row _ _ 7 _ _ _ hX3
                have f7d := blk_frozen hX3 7
                have HN := hide (one_next HGA.out HGE3.out HHA.out HNEH.out HX.out HR.out HK.out HZr.out hKB.out hr2 HB2.out hr3 hgr hb3 HAT2.out HAL.out)
                obtain ⟨A1, c1, rfl⟩ := Kd.R_slice hr3
                rw [show (acc ++ [(⟨ta, tb⟩ : S32)]).length = acc.length + 1 from by simp] at HN
                clear hX3 hr3 hb3 hgr hown
                refine hK.out _ _ trivial (fun _ => ?_)
                clear hK K
                (try simp only [Act.put, List.setIfInBounds_toArray, List.set_cons_zero, List.set_cons_succ])
                refine wpAnyH_take (i := 9) (oi := ?o9x10) (v := ?v9x10) ?ho9x10 (by kernel_rfl) (by kernel_rfl) (by kernel_rfl) ?hQ9x10 (Or.inl ⟨?hw9x10, ?hy9x10⟩) trivial ?_
                case ho9x10 => (simp only [List.getElem?_toArray, List.getElem?_cons_succ, List.getElem?_cons_zero]; try rfl)
                case hQ9x10 => exact fun _ _ _ h => h
                case hw9x10 => rfl
                case hy9x10 => (intro w hSw; go_simp; (first | done | (with_reducible rfl)))
                (try simp only [Act.put, List.setIfInBounds_toArray, List.set_cons_zero, List.set_cons_succ])
                refine wpAnyH_ready (rs := [10]) (by kernel_rfl) (by simp) ?_
                refine (AllReadyH.cons (i := 10) (o := ?o10y11) ?ho10y11 (fun K hK => ?_) AllReadyH.nil)
                case ho10y11 => (simp only [List.getElem?_toArray, List.getElem?_cons_succ, List.getElem?_cons_zero]; try rfl)
                · go_simp
                  refine hK.out _ _ trivial (fun _ => ?_)
                  clear hK K
                  (try simp only [Act.put, List.setIfInBounds_toArray, List.set_cons_zero, List.set_cons_succ])
                  refine wpAnyH_done (by kernel_rfl) ?_ _
                  clear c7d f7d hKA hKB hr1 hr2
                  go_wp2_with fail
                  go_roundw
                  case rel => exact ⟨_, j, rfl, by first | rfl | go_num, by omega, ⟨HN.out⟩⟩
                  case measure => simp only [intOf]; omega
      · go_simp
        go_at_call 46
        (with_reducible refine (HT1.out _ ?_).mono ?_)
        (repeat (first | exact HRd.out | apply Rdr.drew | apply Rdr.drewN))
        rintro e wn1 ⟨rfl, hr1, hk1⟩
        have hKA := hide (Ks.trans (Ks.drew g wr) hk1)
        have hXA := hKA.out.cell HX.out HNE3.out
        have c7a := cell_of_row _ _ 7 _ _ _ hXA
        clear hXA hk1 c7
        refine hK.out _ _ trivial (fun _ => ?_)
        clear hK K
        (try simp only [Act.put, List.setIfInBounds_toArray, List.set_cons_zero, List.set_cons_succ])
        refine wpAnyH_ready (rs := [1, 5]) (by kernel_rfl) (by simp) ?_
        refine (AllReadyH.cons (i := 1) (o := ?o1y12) ?ho1y12 (fun K hK => ?_) (AllReadyH.cons (i := 5) (o := ?o5y12) ?ho5y12 (fun K hK => ?_) AllReadyH.nil))
        case ho1y12 => (simp only [List.getElem?_toArray, List.getElem?_cons_succ, List.getElem?_cons_zero]; try rfl)
        case ho5y12 => (simp only [List.getElem?_toArray, List.getElem?_cons_succ, List.getElem?_cons_zero]; try rfl)
        · go_simp
          refine hK.out _ _ trivial (fun _ => ?_)
          clear hK K
          (try simp only [Act.put, List.setIfInBounds_toArray, List.set_cons_zero, List.set_cons_succ])
          refine wpAnyH_ready (rs := [5]) (by kernel_rfl) (by simp) ?_
          refine (AllReadyH.cons (i := 5) (o := ?o5y13) ?ho5y13 (fun K hK => ?_) AllReadyH.nil)
          case ho5y13 => (simp only [List.getElem?_toArray, List.getElem?_cons_succ, List.getElem?_cons_zero]; try rfl)
          · go_simp
            go_at_call 46
            (with_reducible refine (HT2.out _ hr1).mono ?_)
            rintro e wn2 ⟨rfl, hr2, hk2⟩
            have hKB := hide (hKA.out.trans hk2)
            have hXB := hKB.out.cell HX.out HNE3.out
            have c7b := cell_of_row _ _ 7 _ _ _ hXB
            have c7c := cell_of_row _ _ 7 _ _ _ (blk_alloc1 hXB (.cells #[.string ta, .string tb] 32))
            clear hXB hk2 c7a
            refine hK.out _ _ trivial (fun _ => ?_)
            clear hK K
            (try simp only [Act.put, List.setIfInBounds_toArray, List.set_cons_zero, List.set_cons_succ])
            refine wpAnyH_take (i := 6) (oi := ?o6x14) (v := ?v6x14) ?ho6x14 (by kernel_rfl) (by kernel_rfl) (by kernel_rfl) ?hQ6x14 (Or.inl ⟨?hw6x14, ?hy6x14⟩) trivial ?_
            case ho6x14 => (simp only [List.getElem?_toArray, List.getElem?_cons_succ, List.getElem?_cons_zero]; try rfl)
            case hQ6x14 => exact fun _ _ _ h => h
            case hw6x14 => rfl
            case hy6x14 => (intro w hSw; go_simp; (first | done | (with_reducible rfl)))
            (try simp only [Act.put, List.setIfInBounds_toArray, List.set_cons_zero, List.set_cons_succ])
            refine wpAnyH_ready (rs := [7]) (by kernel_rfl) (by simp) ?_
            refine (AllReadyH.cons (i := 7) (o := ?o7y15) ?ho7y15 (fun K hK => ?_) AllReadyH.nil)
            case ho7y15 => (simp only [List.getElem?_toArray, List.getElem?_cons_succ, List.getElem?_cons_zero]; try rfl)
            · go_simp
              refine hK.out _ _ trivial (fun _ => ?_)
              clear hK K
              (try simp only [Act.put, List.setIfInBounds_toArray, List.set_cons_zero, List.set_cons_succ])
              refine wpAnyH_ready (rs := [8]) (by kernel_rfl) (by simp) ?_
              refine (AllReadyH.cons (i := 8) (o := ?o8y16) ?ho8y16 (fun K hK => ?_) AllReadyH.nil)
              case ho8y16 => (simp only [List.getElem?_toArray, List.getElem?_cons_succ, List.getElem?_cons_zero]; try rfl)
              · skip
                clear c7b c7c
                refine Kd.R_append_step k32 (w0 := wn2) (W := wn2) wA.heap.size (by rfl) (.tmp 34) (.tmp 40) 22 32 (.agg #[.string ⟨#[]⟩, .string ⟨#[]⟩]) 32 rfl Tryd.underlying22 infoA rfl (by decide) (by decide) (.slice Av acc.length cv) acc ⟨ta, tb⟩ [.string ta, .string tb] (fun _ => True) (fun _ => False) rfl rfl (k32_mkM _ _ _ _) (fun _ h => h.elim) (fun _ _ => trivial) (Kd.R_mono (Kd.R_keep HRg.out hKB.out.keep (fun _ h => h.2)) (fun _ _ => trivial)) (Below.refl _ _) (by have := HK.out.size; have := hKB.out.size; omega) (by have := HAL.out; omega) ?_
                intro v1 w3 hr3 hb3 hgr hown
                have hX3 := (hgr.block g3 (blk_lt (hKB.out.cell HX.out HNE3.out)) (Kd.R_ne HR.out HX.out (by decide))).trans (hKB.out.cell HX.out HNE3.out)
                have c7d := cell_of_row _ _ 7 _ _ _ hX3
                have f7d := blk_frozen hX3 7
                have HN := hide (one_next HGA.out HGE3.out HHA.out HNEH.out HX.out HR.out HK.out HZr.out hKB.out hr2 HB2.out hr3 hgr hb3 HAT2.out HAL.out)
                obtain ⟨A1, c1, rfl⟩ := Kd.R_slice hr3
                rw [show (acc ++ [(⟨ta, tb⟩ : S32)]).length = acc.length + 1 from by simp] at HN
                clear hX3 hr3 hb3 hgr hown
                refine hK.out _ _ trivial (fun _ => ?_)
                clear hK K
                (try simp only [Act.put, List.setIfInBounds_toArray, List.set_cons_zero, List.set_cons_succ])
                refine wpAnyH_take (i := 9) (oi := ?o9x17) (v := ?v9x17) ?ho9x17 (by kernel_rfl) (by kernel_rfl) (by kernel_rfl) ?hQ9x17 (Or.inl ⟨?hw9x17, ?hy9x17⟩) trivial ?_
                case ho9x17 => (simp only [List.getElem?_toArray, List.getElem?_cons_succ, List.getElem?_cons_zero]; try rfl)
                case hQ9x17 => exact fun _ _ _ h => h
                case hw9x17 => rfl
                case hy9x17 => (intro w hSw; go_simp; (first | done | (with_reducible rfl)))
                (try simp only [Act.put, List.setIfInBounds_toArray, List.set_cons_zero, List.set_cons_succ])
                refine wpAnyH_ready (rs := [10]) (by kernel_rfl) (by simp) ?_
                refine (AllReadyH.cons (i := 10) (o := ?o10y18) ?ho10y18 (fun K hK => ?_) AllReadyH.nil)
                case ho10y18 => (simp only [List.getElem?_toArray, List.getElem?_cons_succ, List.getElem?_cons_zero]; try rfl)
                · go_simp
                  refine hK.out _ _ trivial (fun _ => ?_)
                  clear hK K
                  (try simp only [Act.put, List.setIfInBounds_toArray, List.set_cons_zero, List.set_cons_succ])
                  refine wpAnyH_done (by kernel_rfl) ?_ _
                  clear c7d f7d hKA hKB hr1 hr2
                  go_wp2_with fail
                  go_roundw
                  case rel => exact ⟨_, j, rfl, by first | rfl | go_num, by omega, ⟨HN.out⟩⟩
                  case measure => simp only [intOf]; omega
        · go_simp
          go_at_call 46
          (with_reducible refine (HT2.out _ hr1).mono ?_)
          rintro e wn2 ⟨rfl, hr2, hk2⟩
          have hKB := hide (hKA.out.trans hk2)
          have hXB := hKB.out.cell HX.out HNE3.out
          have c7b := cell_of_row _ _ 7 _ _ _ hXB
          have c7c := cell_of_row _ _ 7 _ _ _ (blk_alloc1 hXB (.cells #[.string ta, .string tb] 32))
          clear hXB hk2 c7a
          refine hK.out _ _ trivial (fun _ => ?_)
          clear hK K
          (try simp only [Act.put, List.setIfInBounds_toArray, List.set_cons_zero, List.set_cons_succ])
          refine wpAnyH_take (i := 6) (oi := ?o6x19) (v := ?v6x19) ?ho6x19 (by kernel_rfl) (by kernel_rfl) (by kernel_rfl) ?hQ6x19 (Or.inl ⟨?hw6x19, ?hy6x19⟩) trivial ?_
          case ho6x19 => (simp only [List.getElem?_toArray, List.getElem?_cons_succ, List.getElem?_cons_zero]; try rfl)
          case hQ6x19 => exact fun _ _ _ h => h
          case hw6x19 => rfl
          case hy6x19 => (intro w hSw; go_simp; (first | done | (with_reducible rfl)))
          (try simp only [Act.put, List.setIfInBounds_toArray, List.set_cons_zero, List.set_cons_succ])
          refine wpAnyH_ready (rs := [1, 7]) (by kernel_rfl) (by simp) ?_
          refine (AllReadyH.cons (i := 1) (o := ?o1y20) ?ho1y20 (fun K hK => ?_) (AllReadyH.cons (i := 7) (o := ?o7y20) ?ho7y20 (fun K hK => ?_) AllReadyH.nil))
          case ho1y20 => (simp only [List.getElem?_toArray, List.getElem?_cons_succ, List.getElem?_cons_zero]; try rfl)
          case ho7y20 => (simp only [List.getElem?_toArray, List.getElem?_cons_succ, List.getElem?_cons_zero]; try rfl)
          · go_simp
            refine hK.out _ _ trivial (fun _ => ?_)
            clear hK K
            (try simp only [Act.put, List.setIfInBounds_toArray, List.set_cons_zero, List.set_cons_succ])
            refine wpAnyH_ready (rs := [7]) (by kernel_rfl) (by simp) ?_
            refine (AllReadyH.cons (i := 7) (o := ?o7y21) ?ho7y21 (fun K hK => ?_) AllReadyH.nil)
            case ho7y21 => (simp only [List.getElem?_toArray, List.getElem?_cons_succ, List.getElem?_cons_zero]; try rfl)
            · go_simp
              refine hK.out _ _ trivial (fun _ => ?_)
              clear hK K
              (try simp only [Act.put, List.setIfInBounds_toArray, List.set_cons_zero, List.set_cons_succ])
              refine wpAnyH_ready (rs := [8]) (by kernel_rfl) (by simp) ?_
              refine (AllReadyH.cons (i := 8) (o := ?o8y22) ?ho8y22 (fun K hK => ?_) AllReadyH.nil)
              case ho8y22 => (simp only [List.getElem?_toArray, List.getElem?_cons_succ, List.getElem?_cons_zero]; try rfl)
              · skip
                clear c7b c7c
                refine Kd.R_append_step k32 (w0 := wn2) (W := wn2) wA.heap.size (by rfl) (.tmp 34) (.tmp 40) 22 32 (.agg #[.string ⟨#[]⟩, .string ⟨#[]⟩]) 32 rfl Tryd.underlying22 infoA rfl (by decide) (by decide) (.slice Av acc.length cv) acc ⟨ta, tb⟩ [.string ta, .string tb] (fun _ => True) (fun _ => False) rfl rfl (k32_mkM _ _ _ _) (fun _ h => h.elim) (fun _ _ => trivial) (Kd.R_mono (Kd.R_keep HRg.out hKB.out.keep (fun _ h => h.2)) (fun _ _ => trivial)) (Below.refl _ _) (by have := HK.out.size; have := hKB.out.size; omega) (by have := HAL.out; omega) ?_
                intro v1 w3 hr3 hb3 hgr hown
                have hX3 := (hgr.block g3 (blk_lt (hKB.out.cell HX.out HNE3.out)) (Kd.R_ne HR.out HX.out (by decide))).trans (hKB.out.cell HX.out HNE3.out)
                have c7d := cell_of_row _ _ 7 _ _ _ hX3
                have f7d := blk_frozen hX3 7
                have HN := hide (one_next HGA.out HGE3.out HHA.out HNEH.out HX.out HR.out HK.out HZr.out hKB.out hr2 HB2.out hr3 hgr hb3 HAT2.out HAL.out)
                obtain ⟨A1, c1, rfl⟩ := Kd.R_slice hr3
                rw [show (acc ++ [(⟨ta, tb⟩ : S32)]).length = acc.length + 1 from by simp] at HN
                clear hX3 hr3 hb3 hgr hown
                refine hK.out _ _ trivial (fun _ => ?_)
                clear hK K
                (try simp only [Act.put, List.setIfInBounds_toArray, List.set_cons_zero, List.set_cons_succ])
                refine wpAnyH_take (i := 9) (oi := ?o9x23) (v := ?v9x23) ?ho9x23 (by kernel_rfl) (by kernel_rfl) (by kernel_rfl) ?hQ9x23 (Or.inl ⟨?hw9x23, ?hy9x23⟩) trivial ?_
                case ho9x23 => (simp only [List.getElem?_toArray, List.getElem?_cons_succ, List.getElem?_cons_zero]; try rfl)
                case hQ9x23 => exact fun _ _ _ h => h
                case hw9x23 => rfl
                case hy9x23 => (intro w hSw; go_simp; (first | done | (with_reducible rfl)))
                (try simp only [Act.put, List.setIfInBounds_toArray, List.set_cons_zero, List.set_cons_succ])
                refine wpAnyH_ready (rs := [10]) (by kernel_rfl) (by simp) ?_
                refine (AllReadyH.cons (i := 10) (o := ?o10y24) ?ho10y24 (fun K hK => ?_) AllReadyH.nil)
                case ho10y24 => (simp only [List.getElem?_toArray, List.getElem?_cons_succ, List.getElem?_cons_zero]; try rfl)
                · go_simp
                  refine hK.out _ _ trivial (fun _ => ?_)
                  clear hK K
                  (try simp only [Act.put, List.setIfInBounds_toArray, List.set_cons_zero, List.set_cons_succ])
                  refine wpAnyH_done (by kernel_rfl) ?_ _
                  clear c7d f7d hKA hKB hr1 hr2
                  go_wp2_with fail
                  go_roundw
                  case rel => exact ⟨_, j, rfl, by first | rfl | go_num, by omega, ⟨HN.out⟩⟩
                  case measure => simp only [intOf]; omega
          · go_simp
            refine hK.out _ _ trivial (fun _ => ?_)
            clear hK K
            (try simp only [Act.put, List.setIfInBounds_toArray, List.set_cons_zero, List.set_cons_succ])
            refine wpAnyH_ready (rs := [1]) (by kernel_rfl) (by simp) ?_
            refine (AllReadyH.cons (i := 1) (o := ?o1y25) ?ho1y25 (fun K hK => ?_) AllReadyH.nil)
            case ho1y25 => (simp only [List.getElem?_toArray, List.getElem?_cons_succ, List.getElem?_cons_zero]; try rfl)
            · go_simp
              refine hK.out _ _ trivial (fun _ => ?_)
              clear hK K
              (try simp only [Act.put, List.setIfInBounds_toArray, List.set_cons_zero, List.set_cons_succ])
              refine wpAnyH_ready (rs := [8]) (by kernel_rfl) (by simp) ?_
              refine (AllReadyH.cons (i := 8) (o := ?o8y26) ?ho8y26 (fun K hK => ?_) AllReadyH.nil)
              case ho8y26 => (simp only [List.getElem?_toArray, List.getElem?_cons_succ, List.getElem?_cons_zero]; try rfl)
              · skip
                clear c7b c7c
                refine Kd.R_append_step k32 (w0 := wn2) (W := wn2) wA.heap.size (by rfl) (.tmp 34) (.tmp 40) 22 32 (.agg #[.string ⟨#[]⟩, .string ⟨#[]⟩]) 32 rfl Tryd.underlying22 infoA rfl (by decide) (by decide) (.slice Av acc.length cv) acc ⟨ta, tb⟩ [.string ta, .string tb] (fun _ => True) (fun _ => False) rfl rfl (k32_mkM _ _ _ _) (fun _ h => h.elim) (fun _ _ => trivial) (Kd.R_mono (Kd.R_keep HRg.out hKB.out.keep (fun _ h => h.2)) (fun _ _ => trivial)) (Below.refl _ _) (by have := HK.out.size; have := hKB.out.size; omega) (by have := HAL.out; omega) ?_
                intro v1 w3 hr3 hb3 hgr hown
                have hX3 := (hgr.block g3 (blk_lt (hKB.out.cell HX.out HNE3.out)) (Kd.R_ne HR.out HX.out (by decide))).trans (hKB.out.cell HX.out HNE3.out)
                have c7d := cell_of_row _ _ 7 _ _ _ hX3
                have f7d := blk_frozen hX3 7
                have HN := hide (one_next HGA.out HGE3.out HHA.out HNEH.out HX.out HR.out HK.out HZr.out hKB.out hr2 HB2.out hr3 hgr hb3 HAT2.out HAL.out)
                obtain ⟨A1, c1, rfl⟩ := Kd.R_slice hr3
                rw [show (acc ++ [(⟨ta, tb⟩ : S32)]).length = acc.length + 1 from by simp] at HN
                clear hX3 hr3 hb3 hgr hown
                refine hK.out _ _ trivial (fun _ => ?_)
                clear hK K
                (try simp only [Act.put, List.setIfInBounds_toArray, List.set_cons_zero, List.set_cons_succ])
                refine wpAnyH_take (i := 9) (oi := ?o9x27) (v := ?v9x27) ?ho9x27 (by kernel_rfl) (by kernel_rfl) (by kernel_rfl) ?hQ9x27 (Or.inl ⟨?hw9x27, ?hy9x27⟩) trivial ?_
                case ho9x27 => (simp only [List.getElem?_toArray, List.getElem?_cons_succ, List.getElem?_cons_zero]; try rfl)
                case hQ9x27 => exact fun _ _ _ h => h
                case hw9x27 => rfl
                case hy9x27 => (intro w hSw; go_simp; (first | done | (with_reducible rfl)))
                (try simp only [Act.put, List.setIfInBounds_toArray, List.set_cons_zero, List.set_cons_succ])
                refine wpAnyH_ready (rs := [10]) (by kernel_rfl) (by simp) ?_
                refine (AllReadyH.cons (i := 10) (o := ?o10y28) ?ho10y28 (fun K hK => ?_) AllReadyH.nil)
                case ho10y28 => (simp only [List.getElem?_toArray, List.getElem?_cons_succ, List.getElem?_cons_zero]; try rfl)
                · go_simp
                  refine hK.out _ _ trivial (fun _ => ?_)
                  clear hK K
                  (try simp only [Act.put, List.setIfInBounds_toArray, List.set_cons_zero, List.set_cons_succ])
                  refine wpAnyH_done (by kernel_rfl) ?_ _
                  clear c7d f7d hKA hKB hr1 hr2
                  go_wp2_with fail
                  go_roundw
                  case rel => exact ⟨_, j, rfl, by first | rfl | go_num, by omega, ⟨HN.out⟩⟩
                  case measure => simp only [intOf]; omega
    · have hend : acc = l7 ∧ S = S9 := by
        have hat := HAT.out
        rcases Nat.eq_zero_or_pos j with h0 | h0
        · subst h0
          rw [attrsL] at hat
          exact ⟨congrArg Prod.fst hat, congrArg Prod.snd hat⟩
        · obtain ⟨i, rfl⟩ : ∃ i, j = i + 1 := ⟨j - 1, by omega⟩
          have hs : S.2 = true := by
            rcases hbad with h | h
            · exact h
            · exact absurd ⟨h0, h⟩ hgo
          rw [attrsL, if_pos hs] at hat
          exact ⟨congrArg Prod.fst hat, congrArg Prod.snd hat⟩
      obtain ⟨rfl, rfl⟩ := hend
      have HT9 := hide (rtext wr g S HRd.out HBy.out)
      rw [HE9.out] at HT9
      have hj3 : (0 : Int) < (j : Int) → S.2 = true := by
        intro h
        rcases hbad with h2 | h2
        · exact h2
        · exact absurd ⟨by omega, h2⟩ hgo
      have hdj : j = 0 ∨ (0 < j ∧ S.2 = true) := by
        rcases Nat.eq_zero_or_pos j with h0 | h0
        · exact .inl h0
        · exact .inr ⟨h0, hj3 (by omega)⟩
      clear hbad hgo hj3 HAT HAL HBy
      rcases hdj with hj0 | ⟨hj0, hs2⟩
      all_goals
        first
        | subst hj0
        | rw [hs2] at cg1; have hj0' : (0 : Int) < (j : Int) := by omega
        go_wp2_with fail
        refine HT9.out.mono ?_
        rintro e w9 ⟨rfl, hR9, hK9⟩
        dsimp only at hR9 ⊢
        have hX9 := hK9.cell HX.out HNE3.out
        have c8 : w9.cell? ⟨g3, 8, none⟩ = some (.string ⟨#[]⟩) := cell_of_row _ _ 8 _ _ _ hX9
        have f8 := blk_frozen hX9 8
        have HX10 := hide (blk_set hX9 8 (.string t8))
        have hg3g : g < g3 := by have := HGA.out; have := HGE3.out; omega
        have HR10 := hide (hR9.up (Below.setCell (p := ⟨g3, 8, none⟩) (Below.refl (g + 1) w9) hg3g (.string t8)))
        have hZ9 := hK9.cell HZr.out HNEH.out
        have hg3H : H0 < g3 := by have := HHA.out; have := HGE3.out; omega
        have HZ10 := hide ((Below.heap_setCell w9 ⟨g3, 8, none⟩ (.string t8) H0 (Nat.ne_of_lt hg3H)).trans hZ9)
        have HRr := hide (Kd.R_set (Kd.R_mono (Kd.R_keep (Kd.R_types HR.out HGB.out (by decide)) hK9.keep (fun _ h => h.2)) (fun _ _ => trivial)) hX9 (by decide) 8 (.string t8))
        have hk10 : Ks g wA (w9.setCell ⟨g3, 8, none⟩ (.string t8)) := by
          have k := HK.out.trans hK9
          have b := Below.setCell (p := ⟨g3, 8, none⟩) (Below.refl wA.heap.size w9) HGE3.out (.string t8)
          exact ⟨b.os.trans k.os, b.tape.trans k.tape, b.output.trans k.output, Nat.le_trans k.size b.size, fun i hi hgi => (b.block i hi).trans (k.blk i hi hgi)⟩
        have HK10 := hide hk10
        clear hR9 hK9 hX9 hg3g hZ9 hg3H hk10 HT9 cg1
        go_upto_region 7 with fail
        obtain ⟨w10, hw10⟩ : ∃ x, w9.setCell ⟨g3, 8, none⟩ (.string t8) = x := ⟨_, rfl⟩
        rw [hw10] at HX10 HR10 HZ10 HRr HK10 ⊢
        clear hw10 c8 f8
        have hX10 := HX10.out
        have hZ10 := HZ10.out
        have cx0 : w10.cell? ⟨g3, 0, none⟩ = some (.int .i64 n0) := cell_of_row _ _ 0 _ _ _ hX10
        have cx1 : w10.cell? ⟨g3, 1, none⟩ = some (.int .i64 n1) := cell_of_row _ _ 1 _ _ _ hX10
        have cx2 : w10.cell? ⟨g3, 2, none⟩ = some (.int .i64 n2) := cell_of_row _ _ 2 _ _ _ hX10
        have cx3 : w10.cell? ⟨g3, 3, none⟩ = some (.int .i64 n3) := cell_of_row _ _ 3 _ _ _ hX10
        have cx4 : w10.cell? ⟨g3, 4, none⟩ = some (.int .i64 n4) := cell_of_row _ _ 4 _ _ _ hX10
        have cx5 : w10.cell? ⟨g3, 5, none⟩ = some (.int .i64 n5) := cell_of_row _ _ 5 _ _ _ hX10
        have cx6 : w10.cell? ⟨g3, 6, none⟩ = some (.string t6) := cell_of_row _ _ 6 _ _ _ hX10
        have cx7 : w10.cell? ⟨g3, 7, none⟩ = some (.slice Av acc.length cv) := cell_of_row _ _ 7 _ _ _ hX10
        have cx8 : w10.cell? ⟨g3, 8, none⟩ = some (.string t8) := cell_of_row _ _ 8 _ _ _ hX10
        have cz0 : w10.cell? ⟨H0, 0, none⟩ = some (.int .i64 0) := cell_of_row _ _ 0 _ _ _ hZ10
        have cz1 : w10.cell? ⟨H0, 1, none⟩ = some (.int .i64 0) := cell_of_row _ _ 1 _ _ _ hZ10
        have cz2 : w10.cell? ⟨H0, 2, none⟩ = some (.int .i64 0) := cell_of_row _ _ 2 _ _ _ hZ10
        have cz3 : w10.cell? ⟨H0, 3, none⟩ = some (.int .i64 0) := cell_of_row _ _ 3 _ _ _ hZ10
        have cz4 : w10.cell? ⟨H0, 4, none⟩ = some (.int .i64 0) := cell_of_row _ _ 4 _ _ _ hZ10
        have cz5 : w10.cell? ⟨H0, 5, none⟩ = some (.int .i64 0) := cell_of_row _ _ 5 _ _ _ hZ10
        have cz6 : w10.cell? ⟨H0, 6, none⟩ = some (.string ⟨#[]⟩) := cell_of_row _ _ 6 _ _ _ hZ10
        have cz7 : w10.cell? ⟨H0, 7, none⟩ = some (.slice none 0 0) := cell_of_row _ _ 7 _ _ _ hZ10
        have cz8 : w10.cell? ⟨H0, 8, none⟩ = some (.string ⟨#[]⟩) := cell_of_row _ _ 8 _ _ _ hZ10
        have fz0 := blk_frozen hZ10 0
        have fz1 := blk_frozen hZ10 1
        have fz2 := blk_frozen hZ10 2
        have fz3 := blk_frozen hZ10 3
        have fz4 := blk_frozen hZ10 4
        have fz5 := blk_frozen hZ10 5
        have fz6 := blk_frozen hZ10 6
        have fz7 := blk_frozen hZ10 7
        have fz8 := blk_frozen hZ10 8
        clear hX10 hZ10
        go_wp2_with fail
        exact ⟨rfl, _, res_op (set9_blk (HZ10.out) (.int .i64 n0) (.int .i64 n1) (.int .i64 n2) (.int .i64 n3) (.int .i64 n4) (.int .i64 n5) (.string t6) (.slice Av acc.length cv) (.string t8)) 2 _ rfl rfl, _, rfl, Kd.R_lower (set9_R HZ10.out (.int .i64 n0) (.int .i64 n1) (.int .i64 n2) (.int .i64 n3) (.int .i64 n4) (.int .i64 n5) (.string t6) (.slice Av acc.length cv) (.string t8) HRr.out) (by have := HSZ.out; omega), HR10.out.set9 (by have := HLT.out; omega) (.int .i64 n0) (.int .i64 n1) (.int .i64 n2) (.int .i64 n3) (.int .i64 n4) (.int .i64 n5) (.string t6) (.slice Av acc.length cv) (.string t8), Ks.set9 ((Ks.of_below HBA.out).trans HK10.out) (by have := HH0.out; omega) (.int .i64 n0) (.int .i64 n1) (.int .i64 n2) (.int .i64 n3) (.int .i64 n4) (.int .i64 n5) (.string t6) (.slice Av acc.length cv) (.string t8)⟩
end Go.Proofs.YtbljbgjecnmeeaaDoor.OpP
namespace Go.Proofs.YtbljbgjecnmeeaaDoor.OpP
open Go.RowKit Go.Proofs.YtbljbgjecnmeeaaDoor.POpTells Go.Proofs.YtbljbgjecnmeeaaDoorW.PrintWords Go.Proofs.YtbljbgjecnmeeaaDoorW.PrintLast
set_option linter.unusedVariables false
set_option linter.unusedSimpArgs false
namespace Dec
theorem mk24 (o : S24) {W : World} {base : Nat} {sv : Value} {L : List S24} {ok0 : Nat → Prop} {v7 : Value} {w0 : World} (hs : k24.R 24 w0 base ok0 sv L) (hb : base ≤ w0.heap.size) (h7 : k32.R 32 W w0.heap.size (fun _ => True) v7 o.f7) :
    k24.M W base (fun k => True ∧ some k ≠ sv.ownBlock) o [.int .i64 o.f0, .int .i64 o.f1, .int .i64 o.f2, .int .i64 o.f3, .int .i64 o.f4, .int .i64 o.f5, .string o.f6, v7, .string o.f8] := by
  obtain ⟨inner, ho⟩ := Kd.R_own hs
  exact k24_mkM W base _ o (Kd.R_lower (Kd.R_new h7 ho) hb)
theorem info24 : (Tryd.prog.info? 24).map (fun i => (i.zero, i.size, i.bytes)) = some (some (.agg #[.int .i64 0, .int .i64 0, .int .i64 0, .int .i64 0, .int .i64 0, .int .i64 0, .string ⟨#[]⟩, .slice none 0 0, .string ⟨#[]⟩]), 9, 104) := by kernel_rfl
/-- How much the reader has left. -/
def lenAt (w : World) (g : Nat) : Nat := match w.cell? ⟨g, 0, none⟩ with | some (.slice _ n _) => n | _ => 0
theorem Rdr_len {w : World} {g : Nat} {s : Rs} (h : Rdr w g s) : lenAt w g = s.1.length := by
  obtain ⟨A, c, h1, -⟩ := h
  unfold lenAt
  rw [cell_of_row _ _ 0 _ _ _ h1]
  rfl
/-- What Decode hands back. -/
def DecP (w : World) (r : Option (List S24)) (e : Ending) (w' : World) : Prop := Below w.heap.size w w' ∧ match r with
  | some l => ∃ v, e = .returned (.tuple #[v, .int .i64 0]) ∧ k24.R 24 w' w.heap.size (fun _ => True) v l
  | none => e = .returned (.tuple #[.slice none 0 0, .int .i64 12])
/-- At the loop's head. -/
def DecRel (w : World) (g B1 n : Nat) (r : Option (List S24)) (out : Value) (wr : World) : Prop := ∃ (S : Rs) (acc : List S24) (f : Nat), Rdr wr g S ∧ Byt S.1 ∧ S.2 = false ∧ k24.R 24 wr B1 (fun _ => True) out acc ∧ Below w.heap.size w wr ∧ B1 ≤ wr.heap.size ∧ decL f S acc = r ∧ S.1.length < f ∧ acc.length + S.1.length ≤ n
theorem dec_bad {f : Nat} {S : Rs} {acc : List S24} {r : Option (List S24)} {o : S24} {S' : Rs} (h : decL f S acc = r) (hf : S.1.length < f) (h0 : 0 < S.1.length) (he : oneL S = (o, S')) (hb : S'.2 = true ∨ rightB o = false) : r = none := by
  obtain ⟨f, rfl⟩ : ∃ i, f = i + 1 := ⟨f - 1, by omega⟩
  rw [decL, if_neg (by omega), he, if_pos hb] at h
  exact h.symm
theorem dec_good {f : Nat} {S : Rs} {acc : List S24} {r : Option (List S24)} {o : S24} {S' : Rs} (h : decL f S acc = r) (hf : S.1.length < f) (h0 : 0 < S.1.length) (he : oneL S = (o, S')) (hb : S'.2 = false) (hr : rightB o = true) : ∃ f', decL f' S' (acc ++ [o]) = r ∧ S'.1.length < f' ∧ S'.1.length < S.1.length := by
  have hl := oneL_len h0
  rw [he] at hl
  obtain ⟨f, rfl⟩ : ∃ i, f = i + 1 := ⟨f - 1, by omega⟩
  rw [decL, if_neg (by omega), he, if_neg (by simp [hb, hr])] at h
  exact ⟨f, h, by dsimp only at hl; omega, hl⟩
theorem dec_end {f : Nat} {S : Rs} {acc : List S24} {r : Option (List S24)} (h : decL f S acc = r) (hf : S.1.length < f) (h0 : S.1.length = 0) : r = some acc := by
  obtain ⟨f, rfl⟩ : ∃ i, f = i + 1 := ⟨f - 1, by omega⟩
  rw [decL, if_pos h0] at h
  exact h.symm
set_option maxHeartbeats 20000000 in
set_option maxRecDepth 100000 in
theorem decode (w : World) (A : Option Addr) (c : Nat) (xs : List Int) (hC : kB.C w A xs.length xs) (hc : xs.length ≤ c) (hb : Byt xs) (hlen : xs.length ≤ 1000000000) : Calls Tryd.prog 18 #[.slice A xs.length c] w (DecP w (decL (xs.length + 1) (xs, false) [])) := by
  have hgn := heap_alloc_new w (.cells #[.slice A xs.length c, .bool false] 73)
  have b1 := below_alloc (Below.refl w.heap.size w) (.cells #[.slice A xs.length c, .bool false] 73)
  have hA : ∀ ad, A = some ad → 0 < xs.length → ad.block < w.heap.size := by
    intro ad he h0
    obtain ⟨ad', he', hcc⟩ := hC.2.2 h0
    rw [he] at he'
    injection he' with he'
    subst he'
    obtain ⟨cs, hl, hK, hcell⟩ := hcc 0 xs[0] (List.getElem?_eq_getElem h0)
    have hcs : cs = [.int .u8 xs[0]] := hK
    have := World.block_lt_of_cell? _ _ (hcell 0 (.int .u8 xs[0]) (by rw [hcs]; rfl))
    rw [add_block] at this
    exact this
  have hRd : Rdr (w.alloc (.cells #[.slice A xs.length c, .bool false] 73)) w.heap.size (xs, false) := ⟨A, c, hgn, Kd.C_below hC b1, hc, hA⟩
  obtain ⟨w1, hw1⟩ : ∃ x, w.alloc (.cells #[.slice A xs.length c, .bool false] 73) = x := ⟨_, rfl⟩
  have hsz : w1.heap.size = w.heap.size + 1 := by rw [← hw1]; simp
  rw [hw1] at b1 hRd
  obtain ⟨r, hr⟩ : ∃ r, decL (xs.length + 1) (xs, false) [] = r := ⟨_, rfl⟩
  have hrel : DecRel w w.heap.size w1.heap.size xs.length r (.slice none 0 0) w1 := ⟨(xs, false), [], xs.length + 1, hRd, hb, rfl, Kd.R_nil .., b1, Nat.le_refl _, hr, by simp, by simp⟩
  rw [hr]
  obtain ⟨n, hn⟩ : ∃ n, xs.length = n := ⟨_, rfl⟩
  rw [hn] at hrel hw1 hlen ⊢
  obtain ⟨g, hg⟩ : ∃ g, w.heap.size = g := ⟨_, rfl⟩
  rw [hg] at hrel hsz
  obtain ⟨B1, hB1⟩ : ∃ g, w1.heap.size = g := ⟨_, rfl⟩
  rw [hB1] at hrel hsz
  have HREL := hide hrel
  have HW1 := hide hw1
  have HG := hide hg
  have HSZ := hide hsz
  have HB1 := hide hB1
  have HLEN := hide hlen
  clear hgn b1 hA hRd hw1 hsz hr hn hg hB1 hrel hC hc hb hlen
  go_enter Tryd.func18, Tryd.ntmps18
  go_wp2_with fail
  rw [HW1.out, HG.out]
  go_loopw [5] (fun v wr => ∃ vv, vv = v ∧ Aside0 (DecRel w g B1 n r vv wr)) (fun _ wr => lenAt wr g)
  case atStart => exact ⟨_, rfl, ⟨HREL.out⟩⟩
  case round =>
    clear HREL
    obtain ⟨vv, rfl, hrel⟩ := hrel
    obtain ⟨S, acc, f, hRd, hBy, hS2, hR, hB, hBs, hdec, hf, hal⟩ := hrel.out
    have HLA := hide (Rdr_len hRd)
    obtain ⟨Ao, co, hvv⟩ := Kd.R_slice hR
    obtain ⟨AS, cS, hG, -, -, -⟩ := id hRd
    have cg0 : wr.cell? ⟨g, 0, none⟩ = some (.slice AS S.1.length cS) := cell_of_row _ _ 0 _ _ _ hG
    have HGw := hide hG
    have HRd := hide hRd
    have HBy := hide hBy
    have HR := hide hR
    have HB := hide hB
    have HBs := hide hBs
    have HD := hide hdec
    have HF := hide hf
    have HAL := hide hal
    obtain ⟨m, hm⟩ : ∃ m, S.1.length = m := ⟨_, rfl⟩
    rw [hm] at cg0 HLA
    have HM := hide hm
    clear hrel hRd hBy hR hB hBs hdec hf hal hG hm
    by_cases h0 : m = 0
    · subst h0
      have he := dec_end HD.out HF.out HM.out
      clear HLA
      go_wp2_with fail
      go_ret2
      refine ⟨HB.out, ?_⟩
      rw [he]
      exact ⟨vv, rfl, Kd.R_lower HR.out (by have := HSZ.out; have := HG.out; omega)⟩
    · have h1 : 0 < m := by omega
      have h1' : (0 : Int) < (m : Int) := by omega
      have HONE := hide (one wr g S HRd.out HBy.out)
      have hok := fun h => (oneL_ok (s := S) h HBy.out).2.2.2
      obtain ⟨⟨o, S'⟩, ho⟩ : ∃ r, oneL S = r := ⟨_, rfl⟩
      rw [ho] at HONE hok
      have HO := hide ho
      have HOK := hide hok
      clear ho hok
      go_wp2_with fail
      refine HONE.out.mono ?_
      rintro e w2 ⟨v7, rfl, hR7, hR2, hK2⟩
      dsimp only at hR7 hR2 ⊢
      obtain ⟨o0, o1, o2, o3, o4, o5, o6, o7, o8⟩ := o
      unfold opV
      obtain ⟨A7, c7, rfl, hl7, hC7⟩ := Kd.R_reads hR7
      dsimp only at hR7 hl7 hC7 ⊢
      have hgn := heap_alloc_new w2 (.cells #[.int .i64 o0, .int .i64 o1, .int .i64 o2, .int .i64 o3, .int .i64 o4, .int .i64 o5, .string o6, .slice A7 o7.length c7, .string o8] 24)
      have b3 := below_alloc (Below.refl w2.heap.size w2) (.cells #[.int .i64 o0, .int .i64 o1, .int .i64 o2, .int .i64 o3, .int .i64 o4, .int .i64 o5, .string o6, .slice A7 o7.length c7, .string o8] 24)
      obtain ⟨w3, hw3⟩ : ∃ x, w2.alloc (.cells #[.int .i64 o0, .int .i64 o1, .int .i64 o2, .int .i64 o3, .int .i64 o4, .int .i64 o5, .string o6, .slice A7 o7.length c7, .string o8] 24) = x := ⟨_, rfl⟩
      rw [hw3] at hgn b3
      obtain ⟨q, hq⟩ : ∃ x, w2.heap.size = x := ⟨_, rfl⟩
      have HQ := hide hq
      rw [hq] at hgn
      have HW3 := hide hw3
      have hR3 := hR2.below b3
      obtain ⟨bad, hbad⟩ : ∃ b, S'.2 = b := ⟨_, rfl⟩
      obtain ⟨AT, cT, hG3, -, -, -⟩ := id hR3
      rw [hbad] at hG3
      have cg1 : w3.cell? ⟨g, 1, none⟩ = some (.bool bad) := cell_of_row _ _ 1 _ _ _ hG3
      have hgR : k24.R 24 wr B1 (fun k => True ∧ k ≠ g) vv acc := Kd.R_types HR.out HGw.out (by decide)
      have HR3v := hide (Kd.R_below (Kd.R_mono (Kd.R_keep hgR hK2.keep (fun _ h => h.2)) (fun _ _ => trivial) : k24.R 24 w2 B1 (fun _ => True) vv acc) b3)
      have HR7 := hide (Kd.R_below hR7 b3)
      have HC7 := hide (Kd.C_below hC7 b3)
      have HL7 := hide hl7
      have HX := hide hgn
      have HRd3 := hide hR3
      have hB3 : Below w.heap.size w w3 := HB.out.trans ((hK2.trans (Ks.of_below b3)).below HB.out.size (by have := HG.out; omega))
      have HB3 := hide hB3
      have HS3 := hide (show wr.heap.size ≤ w3.heap.size from Nat.le_trans hK2.size b3.size)
      have HBAD := hide hbad
      have cc0 : w3.cell? ⟨q, 0, none⟩ = some (.int .i64 o0) := cell_of_row _ _ 0 _ _ _ hgn
      have cc1 : w3.cell? ⟨q, 1, none⟩ = some (.int .i64 o1) := cell_of_row _ _ 1 _ _ _ hgn
      have cc2 : w3.cell? ⟨q, 2, none⟩ = some (.int .i64 o2) := cell_of_row _ _ 2 _ _ _ hgn
      have cc3 : w3.cell? ⟨q, 3, none⟩ = some (.int .i64 o3) := cell_of_row _ _ 3 _ _ _ hgn
      have cc4 : w3.cell? ⟨q, 4, none⟩ = some (.int .i64 o4) := cell_of_row _ _ 4 _ _ _ hgn
      have cc5 : w3.cell? ⟨q, 5, none⟩ = some (.int .i64 o5) := cell_of_row _ _ 5 _ _ _ hgn
      have cc6 : w3.cell? ⟨q, 6, none⟩ = some (.string o6) := cell_of_row _ _ 6 _ _ _ hgn
      have cc7 : w3.cell? ⟨q, 7, none⟩ = some (.slice A7 o7.length c7) := cell_of_row _ _ 7 _ _ _ hgn
      have cc8 : w3.cell? ⟨q, 8, none⟩ = some (.string o8) := cell_of_row _ _ 8 _ _ _ hgn
      clear hR7 hR2 hK2 hl7 hC7 hgn b3 hw3 hq hR3 hbad hG3 hgR hB3 HONE cg0
      go_upto_region 5 with fail
      rw [HW3.out, HQ.out]
      cases bad with
      | true =>
        have he := dec_bad HD.out HF.out (by have := HM.out; omega) HO.out (.inl HBAD.out)
        clear HLA
        go_wp2_with fail
        go_ret2
        refine ⟨HB3.out, ?_⟩
        rw [he]
        rfl
      | false =>
      have HRT := hide (right ⟨o0, o1, o2, o3, o4, o5, o6, o7, o8⟩ A7 c7 w3 HC7.out HL7.out)
      dsimp only at HRT
      obtain ⟨rb, hrb⟩ : ∃ b, rightB ⟨o0, o1, o2, o3, o4, o5, o6, o7, o8⟩ = b := ⟨_, rfl⟩
      rw [hrb] at HRT
      have HRB := hide hrb
      clear hrb
      go_wp2_with fail
      refine HRT.out.mono ?_
      rintro e w4 ⟨rfl, hb4⟩
      dsimp only
      have hX4 := (hb4.block _ (blk_lt HX.out)).trans HX.out
      have HX4 := hide hX4
      have HRd4 := hide (HRd3.out.below hb4)
      have HR4v := hide (Kd.R_below HR3v.out hb4)
      have HR47 := hide (Kd.R_below HR7.out hb4)
      have HB4 := hide (below_step HB3.out hb4)
      have HS4 := hide (Nat.le_trans HS3.out hb4.size)
      have cd0 : w4.cell? ⟨q, 0, none⟩ = some (.int .i64 o0) := cell_of_row _ _ 0 _ _ _ hX4
      have cd1 : w4.cell? ⟨q, 1, none⟩ = some (.int .i64 o1) := cell_of_row _ _ 1 _ _ _ hX4
      have cd2 : w4.cell? ⟨q, 2, none⟩ = some (.int .i64 o2) := cell_of_row _ _ 2 _ _ _ hX4
      have cd3 : w4.cell? ⟨q, 3, none⟩ = some (.int .i64 o3) := cell_of_row _ _ 3 _ _ _ hX4
      have cd4 : w4.cell? ⟨q, 4, none⟩ = some (.int .i64 o4) := cell_of_row _ _ 4 _ _ _ hX4
      have cd5 : w4.cell? ⟨q, 5, none⟩ = some (.int .i64 o5) := cell_of_row _ _ 5 _ _ _ hX4
      have cd6 : w4.cell? ⟨q, 6, none⟩ = some (.string o6) := cell_of_row _ _ 6 _ _ _ hX4
      have cd7 : w4.cell? ⟨q, 7, none⟩ = some (.slice A7 o7.length c7) := cell_of_row _ _ 7 _ _ _ hX4
      have cd8 : w4.cell? ⟨q, 8, none⟩ = some (.string o8) := cell_of_row _ _ 8 _ _ _ hX4
      clear hX4 hb4 cc0 cc1 cc2 cc3 cc4 cc5 cc6 cc7 cc8 HX HRd3 HR3v HR7 HC7 HB3 HRT cg1
      cases rb with
      | false =>
        have he := dec_bad HD.out HF.out (by have := HM.out; omega) HO.out (.inr HRB.out)
        clear HLA
        go_wp2_with fail
        go_ret2
        refine ⟨HB4.out, ?_⟩
        rw [he]
        rfl
      | true =>
        have HP := hide (mk24 ⟨o0, o1, o2, o3, o4, o5, o6, o7, o8⟩ HR.out HBs.out HR47.out)
        have hal2 : acc.length + 1 ≤ 1000000000 := by have := HAL.out; have := HLEN.out; have := HM.out; omega
        have HAL2 := hide hal2
        subst hvv
        clear hal2
        go_wp2_with (at_builtin; refine Kd.R_append k24 (w0 := w4) B1 rfl (.tmp 27) (.tmp 29) 40 24 (.agg #[.int .i64 0, .int .i64 0, .int .i64 0, .int .i64 0, .int .i64 0, .int .i64 0, .string ⟨#[]⟩, .slice none 0 0, .string ⟨#[]⟩]) 104 rfl Tryd.underlying40 info24 rfl (by decide) (by decide) _ acc ⟨o0, o1, o2, o3, o4, o5, o6, o7, o8⟩ [.int .i64 o0, .int .i64 o1, .int .i64 o2, .int .i64 o3, .int .i64 o4, .int .i64 o5, .string o6, .slice A7 o7.length c7, .string o8] (fun _ => True) (fun k => True ∧ some k ≠ (Value.slice Ao acc.length co).ownBlock) rfl rfl HP.out (fun _ h => h) (fun _ _ => trivial) HR4v.out (Below.refl _ _) (Nat.le_trans HBs.out HS4.out) (by have := HAL2.out; omega) ?_; intro v1 w5 hr1 hb1 hg1 hown; have HR5 := hide hr1; have HB5 := hide hb1; clear hr1 hb1 hg1 hown)
        go_roundw
        case rel =>
          obtain ⟨f', d1, d2, d3⟩ := dec_good HD.out HF.out (by have := HM.out; omega) HO.out HBAD.out HRB.out
          have h1 : B1 = g + 1 := HSZ.out
          have hb5 := HB5.out
          refine ⟨_, rfl, ⟨S', acc ++ [⟨o0, o1, o2, o3, o4, o5, o6, o7, o8⟩], f', HRd4.out.up (by rw [← h1]; exact hb5), HOK.out HBAD.out, HBAD.out, HR5.out, HB4.out.trans (hb5.mono (by have := HG.out; omega)), Nat.le_trans (Nat.le_trans HBs.out HS4.out) hb5.size, d1, d2, ?_⟩⟩
          have := HAL.out
          rw [List.length_append, List.length_singleton]
          omega
        case measure =>
          obtain ⟨f', d1, d2, d3⟩ := dec_good HD.out HF.out (by have := HM.out; omega) HO.out HBAD.out HRB.out
          have h1 : B1 = g + 1 := HSZ.out
          have hl := Rdr_len (HRd4.out.up (w' := w5) (by rw [← h1]; exact HB5.out))
          have hm := HLA.out
          have := HM.out
          omega
end Dec
end Go.Proofs.YtbljbgjecnmeeaaDoor.OpP
