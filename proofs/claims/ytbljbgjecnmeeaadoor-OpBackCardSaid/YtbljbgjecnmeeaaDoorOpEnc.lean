/- The walk of op.Encode. -/
import Derived.Test.YtbljbgjecnmeeaaDoorOpRight
import Derived.Test.YtbljbgjecnmeeaaDoorOpFits
import Derived.Test.YtbljbgjecnmeeaaDoorOpBytes
import Derived.Deep.RegionHeld3
import Derived.Outline
namespace Go.Proofs.YtbljbgjecnmeeaaDoor.OpP
open Go.RowKit Go.Proofs.YtbljbgjecnmeeaaDoor.POpTells Go.Proofs.YtbljbgjecnmeeaaDoorW.PrintWords Go.Proofs.YtbljbgjecnmeeaaDoorW.PrintLast
set_option linter.unusedVariables false
set_option linter.unusedSimpArgs false
def encA (x : S32) : List Int := txt x.f0 ++ txt x.f1
/-- An operation as bytes, up to its attributes. -/
def encH (o : S24) : List Int := be o.f0 1 ++ be o.f1 4 ++ be o.f2 4 ++ be o.f3 4 ++ be o.f4 1 ++ be o.f5 1 ++ txt o.f6 ++ be (o.f7.length : Int) 2
/-- An operation as bytes. -/
def encO (o : S24) : List Int := encH o ++ o.f7.flatMap encA ++ txt o.f8
def okB (o : S24) : Bool := rightB o && fitsB o
def encL (l : List S24) : List Int := l.flatMap encO
theorem encL_take (l : List S24) (k : Nat) (h : k < l.length) : encL (l.take (k + 1)) = encL (l.take k) ++ encO l[k] := by
  unfold encL
  rw [List.take_succ_eq_append_getElem h, List.flatMap_append]
  simp
theorem encL_len (l : List S24) (k : Nat) (h : k ≤ l.length) : (encL (l.take k)).length ≤ (encL l).length := by
  have : encL l = encL (l.take k) ++ encL (l.drop k) := by unfold encL; rw [← List.flatMap_append, List.take_append_drop]
  rw [this, List.length_append]
  omega
theorem encA_take (l : List S32) (k : Nat) (h : k < l.length) : (l.take (k + 1)).flatMap encA = (l.take k).flatMap encA ++ encA l[k] := by
  rw [List.take_succ_eq_append_getElem h, List.flatMap_append]
  simp
theorem encA_len (l : List S32) (k : Nat) (h : k ≤ l.length) : ((l.take k).flatMap encA).length ≤ (l.flatMap encA).length := by
  have : l.flatMap encA = (l.take k).flatMap encA ++ (l.drop k).flatMap encA := by rw [← List.flatMap_append, List.take_append_drop]
  rw [this, List.length_append]
  omega
abbrev kB : Kd Int := Kd.int .u8
/-- A row of bytes of one's own, made since w. -/
def Row (w : World) (v : Value) (l : List Int) (wr : World) : Prop := ∃ A c, v = .slice A l.length c ∧ Kd.R kB 5 wr w.heap.size (fun _ => True) (.slice A l.length c) l ∧ Below w.heap.size w wr
theorem Row.below {w : World} {v : Value} {l : List Int} {wr w' : World} (h : Row w v l wr) (hb : Below wr.heap.size wr w') : Row w v l w' := by
  obtain ⟨A, c, e, hR, hB⟩ := h
  exact ⟨A, c, e, Kd.R_below hR hb, below_step hB hb⟩
theorem Row.all {w : World} {v : Value} {l : List Int} {wr : World} (h : Row w v l wr) : Below w.heap.size w wr := by
  obtain ⟨_, _, _, _, hB⟩ := h
  exact hB
/-- What a writing call hands back. -/
def WrP (w wr : World) (l : List Int) (e : Ending) (w' : World) : Prop := ∃ v, e = .returned v ∧ Row w v l w' ∧ Bes wr w'
theorem Row.put {w : World} {v : Value} {l : List Int} {wr : World} (h : Row w v l wr) (n : Int) (s : Nat) (hs : s ≤ 4) (hl : l.length + 4 < 140737488355328) : Calls Tryd.prog 31 #[v, .int .i64 n, .int .i64 (s : Int)] wr (WrP w wr (l ++ be n s)) := by
  obtain ⟨A, c, rfl, hR, hB⟩ := h
  refine (putC w wr _ l n s hB hR hs hl).mono ?_
  rintro e w' ⟨A', c', rfl, hR', hB', hS'⟩
  exact ⟨_, rfl, ⟨A', c', rfl, hR', hB'⟩, hS'⟩
theorem Row.txt {w : World} {v : Value} {l : List Int} {wr : World} (h : Row w v l wr) (s : ByteArray) (hl : l.length + s.size + 4 < 140737488355328) : Calls Tryd.prog 32 #[v, .string s] wr (WrP w wr (l ++ OpP.txt s)) := by
  obtain ⟨A, c, rfl, hR, hB⟩ := h
  refine (textC w wr _ l s hB hR hl).mono ?_
  rintro e w' ⟨A', c', rfl, hR', hB', hS'⟩
  exact ⟨_, rfl, ⟨A', c', rfl, hR', hB'⟩, hS'⟩
theorem Row.drew {w : World} {v : Value} {l : List Int} {wr : World} (h : Row w v l wr) : Row w v l wr.drew := h.below ((Below.refl _ _).drew)
theorem Row.drewN {w : World} {v : Value} {l : List Int} {wr : World} (h : Row w v l wr) (n : Nat) : Row w v l (wr.drewN n) := h.below (pw_below_drewN (Below.refl _ _) n)
theorem o123 {W : World} {g : Nat} {a0 a1 a2 a3 a4 a5 a6 a7 a8 : Value} (h : W.heap[g]? = some (.cells #[a0, a1, a2, a3, a4, a5, a6, a7, a8] 24 (0, 0))) : W.cell? ⟨g, 1, none⟩ = some a1 ∧ W.cell? ⟨g, 2, none⟩ = some a2 ∧ W.cell? ⟨g, 3, none⟩ = some a3 := ⟨cell_of_row _ _ 1 _ _ _ h, cell_of_row _ _ 2 _ _ _ h, cell_of_row _ _ 3 _ _ _ h⟩
theorem o456 {W : World} {g : Nat} {a0 a1 a2 a3 a4 a5 a6 a7 a8 : Value} (h : W.heap[g]? = some (.cells #[a0, a1, a2, a3, a4, a5, a6, a7, a8] 24 (0, 0))) : W.cell? ⟨g, 4, none⟩ = some a4 ∧ W.cell? ⟨g, 5, none⟩ = some a5 ∧ W.cell? ⟨g, 6, none⟩ = some a6 := ⟨cell_of_row _ _ 4 _ _ _ h, cell_of_row _ _ 5 _ _ _ h, cell_of_row _ _ 6 _ _ _ h⟩
theorem x01 {W : World} {g : Nat} {a0 a1 : Value} (h : W.heap[g]? = some (.cells #[a0, a1] 32 (0, 0))) : W.cell? ⟨g, 0, none⟩ = some a0 ∧ W.cell? ⟨g, 1, none⟩ = some a1 := ⟨cell_of_row _ _ 0 _ _ _ h, cell_of_row _ _ 1 _ _ _ h⟩
/-- What Encode hands back. -/
def EncP (w : World) (l : List S24) (e : Ending) (w' : World) : Prop := Below w.heap.size w w' ∧ if l.all okB = true then ∃ v, e = .returned (.tuple #[v, .int .i64 0]) ∧ Row w v (encL l) w' else e = .returned (.tuple #[.slice none 0 0, .int .i64 12])
/-- At the loop's head. -/
def EncRel (w : World) (l : List S24) (k : Nat) (b : Value) (wr : World) : Prop := Row w b (encL (l.take k)) wr ∧ (l.take k).all okB = true
set_option maxHeartbeats 20000000 in
set_option maxRecDepth 100000 in
theorem encode (l : List S24) (A : Option Addr) (c : Nat) (w : World) (hC : k24.C w A l.length l) (hc : l.length ≤ c) (hlen : (encL l).length ≤ 100000000000) :
    Calls Tryd.prog 13 #[.slice A l.length c] w (EncP w l) := by
  have HC := hide hC
  have hmx := hC.2.1
  unfold maxLen at hmx
  have HLEN := hide hlen
  clear hC hlen
  obtain ⟨n, hn⟩ : ∃ n, l.length = n := ⟨_, rfl⟩
  have HN := hide hn
  rw [hn] at hmx hc ⊢
  clear hn
  go_enter Tryd.func13, Tryd.ntmps13
  go_wp2_with fail
  go_loopw [4, 11] (fun b i wr => ∃ k : Nat, k ≤ n ∧ i = .int .i64 (k : Int) ∧ Aside0 (EncRel w l k b wr)) (fun _ i _ => n - (intOf i).toNat)
  case atStart => exact ⟨0, Nat.zero_le _, rfl, ⟨⟨⟨none, 0, rfl, Kd.R_nil .., Below.refl _ _⟩, rfl⟩⟩⟩
  case round =>
    obtain ⟨k, hk, rfl, hrel⟩ := hrel
    obtain ⟨⟨Ab, cb, rfl, hR, hB⟩, hall⟩ := hrel.out
    by_cases hlt : k < n
    · have hkl : k < l.length := by rw [HN.out]; exact hlt
      obtain ⟨ad, A7, c7, hA, e0, e1, e2, e3, e4, e5, e6, e7, e8, l7, g7⟩ := at_T24 HC.out (k : Int) (by omega) (by omega)
      rw [Int.toNat_natCast] at e0 e1 e2 e3 e4 e5 e6 e7 e8
      have hst := encL_take l k hkl
      have hx : rd_T24 l (k : Int) = l[k] := by
        unfold rd_T24
        rw [Int.toNat_natCast, List.getD_eq_getElem?_getD, List.getElem?_eq_getElem hkl]
        rfl
      have hal : l.all okB = true → okB l[k] = true := fun h => List.all_eq_true.1 h _ (List.getElem_mem hkl)
      have hals : okB l[k] = true → (l.take (k + 1)).all okB = true := fun h => by rw [List.take_succ_eq_append_getElem hkl, List.all_append, hall]; simp [h]
      have hle := encL_len l (k + 1) (by omega)
      rw [hst] at hle
      obtain ⟨⟨o0, o1, o2, o3, o4, o5, o6, o7, o8⟩, ho⟩ : ∃ o, l[k] = o := ⟨_, rfl⟩
      rw [ho] at hx hal hals hst hle
      rw [hx] at e0 e1 e2 e3 e4 e5 e6 e7 e8 l7 g7
      dsimp only at e0 e1 e2 e3 e4 e5 e6 e7 e8 l7 g7
      obtain ⟨lb, hlb⟩ : ∃ lb, encL (l.take k) = lb := ⟨_, rfl⟩
      rw [hlb] at hR hst hle
      have hle2 : lb.length + (encO ⟨o0, o1, o2, o3, o4, o5, o6, o7, o8⟩).length ≤ 100000000000 := by
        have := HLEN.out
        rw [List.length_append] at hle
        omega
      have HLE := hide hle2
      have HAL := hide hal
      have HALS := hide hals
      have HST := hide hst
      have hgn := heap_alloc_new wr (.cells #[.int .i64 o0, .int .i64 o1, .int .i64 o2, .int .i64 o3, .int .i64 o4, .int .i64 o5, .string o6, .slice A7 o7.length c7, .string o8] 24)
      have b1 := below_alloc (Below.refl wr.heap.size wr) (.cells #[.int .i64 o0, .int .i64 o1, .int .i64 o2, .int .i64 o3, .int .i64 o4, .int .i64 o5, .string o6, .slice A7 o7.length c7, .string o8] 24)
      obtain ⟨w1, hw1⟩ : ∃ w1, wr.alloc (.cells #[.int .i64 o0, .int .i64 o1, .int .i64 o2, .int .i64 o3, .int .i64 o4, .int .i64 o5, .string o6, .slice A7 o7.length c7, .string o8] 24) = w1 := ⟨_, rfl⟩
      rw [hw1] at hgn b1
      obtain ⟨g, hg⟩ : ∃ g, wr.heap.size = g := ⟨_, rfl⟩
      rw [hg] at hgn
      have HROW := hide (show Row w (.slice Ab lb.length cb) lb w1 from Row.below ⟨Ab, cb, rfl, hR, hB⟩ b1)
      have HO := hide hgn
      have HW1 := hide hw1
      have HG := hide hg
      have HC7 := hide g7
      have HL7 := hide l7
      have k1 : (k : Int) < (n : Int) := by omega
      have k2 : (0 : Int) ≤ (k : Int) := by omega
      rw [hlb]
      have e0 := cellW e0 hB
      have e1 := cellW e1 hB
      have e2 := cellW e2 hB
      have e3 := cellW e3 hB
      have e4 := cellW e4 hB
      have e5 := cellW e5 hB
      have e6 := cellW e6 hB
      have e7 := cellW e7 hB
      have e8 := cellW e8 hB
      subst hA
      clear hR hB hall hrel hx ho hal hals hst hle hle2 hgn b1 hw1 hg l7 g7 hlb hkl
      go_wp2_with fail
      rw [HW1.out, HG.out]
      refine (right ⟨o0, o1, o2, o3, o4, o5, o6, o7, o8⟩ A7 c7 w1 (Kd.C_below HC7.out HROW.out.all) HL7.out).mono ?_
      rintro e w2 ⟨rfl, hb2⟩
      dsimp only
      have hO2 := (hb2.block _ (blk_lt HO.out)).trans HO.out
      have HROW2 := hide (HROW.out.below hb2)
      have HO2 := hide hO2
      obtain ⟨rb, hrb⟩ : ∃ r, rightB ⟨o0, o1, o2, o3, o4, o5, o6, o7, o8⟩ = r := ⟨_, rfl⟩
      have HRB := hide hrb
      rw [hrb]
      clear hb2 hrb e0 e1 e2 e3 e4 e5 e6 e7 e8 k2 HROW HO HW1
      have cY0 : w2.cell? ⟨g, 0, none⟩ = some (.int .i64 o0) := cell_of_row _ _ 0 _ _ _ hO2
      have cY1 : w2.cell? ⟨g, 1, none⟩ = some (.int .i64 o1) := cell_of_row _ _ 1 _ _ _ hO2
      have cY2 : w2.cell? ⟨g, 2, none⟩ = some (.int .i64 o2) := cell_of_row _ _ 2 _ _ _ hO2
      have cY3 : w2.cell? ⟨g, 3, none⟩ = some (.int .i64 o3) := cell_of_row _ _ 3 _ _ _ hO2
      have cY4 : w2.cell? ⟨g, 4, none⟩ = some (.int .i64 o4) := cell_of_row _ _ 4 _ _ _ hO2
      have cY5 : w2.cell? ⟨g, 5, none⟩ = some (.int .i64 o5) := cell_of_row _ _ 5 _ _ _ hO2
      have cY6 : w2.cell? ⟨g, 6, none⟩ = some (.string o6) := cell_of_row _ _ 6 _ _ _ hO2
      have cY7 : w2.cell? ⟨g, 7, none⟩ = some (.slice A7 o7.length c7) := cell_of_row _ _ 7 _ _ _ hO2
      have cY8 : w2.cell? ⟨g, 8, none⟩ = some (.string o8) := cell_of_row _ _ 8 _ _ _ hO2
      clear hO2
      cases rb with
      | false =>
        go_wp2_with fail
        go_ret2
        refine ⟨HROW2.out.all, ?_⟩
        rw [if_neg (fun h => by have := HAL.out h; unfold okB at this; rw [HRB.out] at this; cases this)]
        rfl
      | true =>
      go_wp2_with fail
      refine (fits ⟨o0, o1, o2, o3, o4, o5, o6, o7, o8⟩ A7 c7 w2 (Kd.C_below HC7.out HROW2.out.all)).mono ?_
      rintro e w3 ⟨rfl, hb3⟩
      dsimp only
      have hO3 := (hb3.block _ (blk_lt HO2.out)).trans HO2.out
      have HROW3 := hide (HROW2.out.below hb3)
      have HO3 := hide hO3
      obtain ⟨fb, hfb⟩ : ∃ r, fitsB ⟨o0, o1, o2, o3, o4, o5, o6, o7, o8⟩ = r := ⟨_, rfl⟩
      have HFB := hide hfb
      rw [hfb]
      clear hb3 hfb HROW2 HO2 cY0 cY1 cY2 cY3 cY4 cY5 cY6 cY7 cY8
      have cZ0 : w3.cell? ⟨g, 0, none⟩ = some (.int .i64 o0) := cell_of_row _ _ 0 _ _ _ hO3
      have cZ1 : w3.cell? ⟨g, 1, none⟩ = some (.int .i64 o1) := cell_of_row _ _ 1 _ _ _ hO3
      have cZ2 : w3.cell? ⟨g, 2, none⟩ = some (.int .i64 o2) := cell_of_row _ _ 2 _ _ _ hO3
      have cZ3 : w3.cell? ⟨g, 3, none⟩ = some (.int .i64 o3) := cell_of_row _ _ 3 _ _ _ hO3
      have cZ4 : w3.cell? ⟨g, 4, none⟩ = some (.int .i64 o4) := cell_of_row _ _ 4 _ _ _ hO3
      have cZ5 : w3.cell? ⟨g, 5, none⟩ = some (.int .i64 o5) := cell_of_row _ _ 5 _ _ _ hO3
      have cZ6 : w3.cell? ⟨g, 6, none⟩ = some (.string o6) := cell_of_row _ _ 6 _ _ _ hO3
      have cZ7 : w3.cell? ⟨g, 7, none⟩ = some (.slice A7 o7.length c7) := cell_of_row _ _ 7 _ _ _ hO3
      have cZ8 : w3.cell? ⟨g, 8, none⟩ = some (.string o8) := cell_of_row _ _ 8 _ _ _ hO3
      clear hO3
      cases fb with
      | false =>
        go_wp2_with fail
        go_ret2
        refine ⟨HROW3.out.all, ?_⟩
        rw [if_neg (fun h => by have := HAL.out h; unfold okB at this; rw [HRB.out, HFB.out] at this; cases this)]
        rfl
      | true =>
      have hok : okB ⟨o0, o1, o2, o3, o4, o5, o6, o7, o8⟩ = true := by unfold okB; rw [HRB.out, HFB.out]; rfl
      have HOK := hide (HALS.out hok)
      have hsz : lb.length + 1 + 4 + 4 + 4 + 1 + 1 + (3 + o6.size) + 2 + (o7.flatMap encA).length + (3 + o8.size) ≤ 100000000000 := by
        have := HLE.out
        unfold encO encH at this
        simp only [List.length_append, be_length, txt_length] at this
        omega
      have HSZ := hide hsz
      have ho7 := HC7.out.2.1
      unfold maxLen at ho7
      have HO7 := hide ho7
      clear hok hsz ho7 HAL HALS HRB HFB HLE
      go_wp2_with fail
      refine (HROW3.out.put o0 1 (by omega) (by have := HSZ.out; omega)).mono ?_
      rintro e w4 ⟨b1, rfl, hr4, hs4⟩
      dsimp only
      have hO4 := hs4 g _ 24 HO3.out (by decide)
      have HR4 := hide hr4
      have HO4 := hide hO4
      clear hr4 hs4 HROW3 HO3 cZ0 cZ1 cZ2 cZ3 cZ4 cZ5 cZ6 cZ7 cZ8
      have cO0 : w4.cell? ⟨g, 0, none⟩ = some (.int .i64 o0) := cell_of_row _ _ 0 _ _ _ hO4
      have cO1 : w4.cell? ⟨g, 1, none⟩ = some (.int .i64 o1) := cell_of_row _ _ 1 _ _ _ hO4
      have cO2 : w4.cell? ⟨g, 2, none⟩ = some (.int .i64 o2) := cell_of_row _ _ 2 _ _ _ hO4
      have cO3 : w4.cell? ⟨g, 3, none⟩ = some (.int .i64 o3) := cell_of_row _ _ 3 _ _ _ hO4
      have cO4 : w4.cell? ⟨g, 4, none⟩ = some (.int .i64 o4) := cell_of_row _ _ 4 _ _ _ hO4
      have cO5 : w4.cell? ⟨g, 5, none⟩ = some (.int .i64 o5) := cell_of_row _ _ 5 _ _ _ hO4
      have cO6 : w4.cell? ⟨g, 6, none⟩ = some (.string o6) := cell_of_row _ _ 6 _ _ _ hO4
      have cO7 : w4.cell? ⟨g, 7, none⟩ = some (.slice A7 o7.length c7) := cell_of_row _ _ 7 _ _ _ hO4
      have cO8 : w4.cell? ⟨g, 8, none⟩ = some (.string o8) := cell_of_row _ _ 8 _ _ _ hO4
      clear hO4
      obtain ⟨L4, hL4⟩ : ∃ L, lb ++ be o0 1 = L := ⟨_, rfl⟩
      have hl4 : L4.length = lb.length + 1 := by rw [← hL4, List.length_append, be_length]
      rw [hL4] at HR4
      have HL4 := hide hL4
      have HLL := hide hl4
      clear hL4 hl4
      have HP1 := hide (fun W (h : Row w b1 L4 W) => (show Calls Tryd.prog 31 #[b1, .int .i64 o1, .int .i64 4] W (WrP w W (L4 ++ be o1 4)) from h.put o1 4 (by omega) (by have := HSZ.out; have := HLL.out; omega)))
      have HP2 := hide (fun v W (h : Row w v (L4 ++ be o1 4) W) => (show Calls Tryd.prog 31 #[v, .int .i64 o2, .int .i64 4] W (WrP w W (L4 ++ be o1 4 ++ be o2 4)) from h.put o2 4 (by omega) (by have := HSZ.out; have := HLL.out; rw [List.length_append, be_length]; omega)))
      have HP3 := hide (fun v W (h : Row w v (L4 ++ be o1 4 ++ be o2 4) W) => (show Calls Tryd.prog 31 #[v, .int .i64 o3, .int .i64 4] W (WrP w W (L4 ++ be o1 4 ++ be o2 4 ++ be o3 4)) from h.put o3 4 (by omega) (by have := HSZ.out; have := HLL.out; rw [List.length_append, List.length_append, be_length, be_length]; omega)))
      go_wp2_with fail
      go_region_held3 (fun W => W.cell? ⟨g, 1, none⟩ = some (.int .i64 o1) ∧ W.cell? ⟨g, 2, none⟩ = some (.int .i64 o2) ∧ W.cell? ⟨g, 3, none⟩ = some (.int .i64 o3))
        (first | exact o123 HO4.out | exact o123 hq1 | exact o123 hq2 | exact o123 hq3)
        (first | (go_at_call 31; (with_reducible refine (HP1.out _ ?_).mono ?_); (repeat (first | exact HR4.out | apply Row.drew | apply Row.drewN)); rintro e wn1 ⟨v1, rfl, hr1, hs1⟩; have hq1 := hs1 g _ 24 HO4.out (by decide)) | (go_at_call 31; (with_reducible refine (HP2.out _ _ ?_).mono ?_); (repeat (first | exact hr1 | apply Row.drew | apply Row.drewN)); rintro e wn2 ⟨v2, rfl, hr2, hs2⟩; have hq2 := hs2 g _ 24 hq1 (by decide)) | (go_at_call 31; (with_reducible refine (HP3.out _ _ ?_).mono ?_); (repeat (first | exact hr2 | apply Row.drew | apply Row.drewN)); rintro e wn3 ⟨v3, rfl, hr3, hs3⟩; have hq3 := hs3 g _ 24 hq2 (by decide)))
      have HRow8 := hide hr3
      have HO8 := hide hq3
      clear hr1 hr2 hr3 hs1 hs2 hs3 hq1 hq2 hq3 HP1 HP2 HP3 HR4 HO4 cO0 cO1 cO2 cO3 cO4 cO5 cO6 cO7 cO8
      obtain ⟨w8, hw8⟩ : ∃ w8, wn3 = w8 := ⟨_, rfl⟩
      rw [hw8] at HRow8 HO8 ⊢
      clear hw8
      obtain ⟨L8, hL8⟩ : ∃ L, L4 ++ be o1 4 ++ be o2 4 ++ be o3 4 = L := ⟨_, rfl⟩
      have hl8 : L8.length = lb.length + 1 + 4 + 4 + 4 := by rw [← hL8, List.length_append, List.length_append, List.length_append, be_length, be_length, be_length, HLL.out]
      rw [hL8] at HRow8
      have HL8 := hide hL8
      have HLL8 := hide hl8
      clear hL8 hl8 HLL
      have HP1 := hide (fun W (h : Row w v3 L8 W) => (show Calls Tryd.prog 31 #[v3, .int .i64 o4, .int .i64 1] W (WrP w W (L8 ++ be o4 1)) from h.put o4 1 (by omega) (by have := HSZ.out; have := HLL8.out; omega)))
      have HP2 := hide (fun v W (h : Row w v (L8 ++ be o4 1) W) => (show Calls Tryd.prog 31 #[v, .int .i64 o5, .int .i64 1] W (WrP w W (L8 ++ be o4 1 ++ be o5 1)) from h.put o5 1 (by omega) (by have := HSZ.out; have := HLL8.out; rw [List.length_append, be_length]; omega)))
      have HP3 := hide (fun v W (h : Row w v (L8 ++ be o4 1 ++ be o5 1) W) => h.txt o6 (by have := HSZ.out; have := HLL8.out; rw [List.length_append, List.length_append, be_length, be_length]; omega))
      have hO8 := HO8.out
      have cO0 : w8.cell? ⟨g, 0, none⟩ = some (.int .i64 o0) := cell_of_row _ _ 0 _ _ _ hO8
      have cO1 : w8.cell? ⟨g, 1, none⟩ = some (.int .i64 o1) := cell_of_row _ _ 1 _ _ _ hO8
      have cO2 : w8.cell? ⟨g, 2, none⟩ = some (.int .i64 o2) := cell_of_row _ _ 2 _ _ _ hO8
      have cO3 : w8.cell? ⟨g, 3, none⟩ = some (.int .i64 o3) := cell_of_row _ _ 3 _ _ _ hO8
      have cO4 : w8.cell? ⟨g, 4, none⟩ = some (.int .i64 o4) := cell_of_row _ _ 4 _ _ _ hO8
      have cO5 : w8.cell? ⟨g, 5, none⟩ = some (.int .i64 o5) := cell_of_row _ _ 5 _ _ _ hO8
      have cO6 : w8.cell? ⟨g, 6, none⟩ = some (.string o6) := cell_of_row _ _ 6 _ _ _ hO8
      have cO7 : w8.cell? ⟨g, 7, none⟩ = some (.slice A7 o7.length c7) := cell_of_row _ _ 7 _ _ _ hO8
      have cO8 : w8.cell? ⟨g, 8, none⟩ = some (.string o8) := cell_of_row _ _ 8 _ _ _ hO8
      clear hO8
      go_wp2_with fail
      go_region_held3 (fun W => W.cell? ⟨g, 4, none⟩ = some (.int .i64 o4) ∧ W.cell? ⟨g, 5, none⟩ = some (.int .i64 o5) ∧ W.cell? ⟨g, 6, none⟩ = some (.string o6))
        (first | exact o456 HO8.out | exact o456 hq1 | exact o456 hq2 | exact o456 hq3)
        (first | (go_at_call 31; (with_reducible refine (HP1.out _ ?_).mono ?_); (repeat (first | exact HRow8.out | apply Row.drew | apply Row.drewN)); rintro e wn1 ⟨v11, rfl, hr1, hs1⟩; have hq1 := hs1 g _ 24 HO8.out (by decide)) | (go_at_call 31; (with_reducible refine (HP2.out _ _ ?_).mono ?_); (repeat (first | exact hr1 | apply Row.drew | apply Row.drewN)); rintro e wn2 ⟨v12, rfl, hr2, hs2⟩; have hq2 := hs2 g _ 24 hq1 (by decide)) | (go_at_call 32; (with_reducible refine (HP3.out _ _ ?_).mono ?_); (repeat (first | exact hr2 | apply Row.drew | apply Row.drewN)); rintro e wn3 ⟨v13, rfl, hr3, hs3⟩; have hq3 := hs3 g _ 24 hq2 (by decide)))
      have HRow9 := hide hr3
      have HO9 := hide hq3
      clear hr1 hr2 hr3 hs1 hs2 hs3 hq1 hq2 hq3 HP1 HP2 HP3 HRow8 HO8 cO0 cO1 cO2 cO3 cO4 cO5 cO6 cO7 cO8
      obtain ⟨w9, hw9⟩ : ∃ w9, wn3 = w9 := ⟨_, rfl⟩
      rw [hw9] at HRow9 HO9 ⊢
      clear hw9
      obtain ⟨L9, hL9⟩ : ∃ L, L8 ++ be o4 1 ++ be o5 1 ++ OpP.txt o6 = L := ⟨_, rfl⟩
      have hl9 : L9.length = lb.length + 1 + 4 + 4 + 4 + 1 + 1 + (3 + o6.size) := by rw [← hL9, List.length_append, List.length_append, List.length_append, be_length, be_length, txt_length, HLL8.out]
      rw [hL9] at HRow9
      have HL9 := hide hL9
      have HLL9 := hide hl9
      clear hL9 hl9 HLL8
      have hO9 := HO9.out
      have cO0 : w9.cell? ⟨g, 0, none⟩ = some (.int .i64 o0) := cell_of_row _ _ 0 _ _ _ hO9
      have cO1 : w9.cell? ⟨g, 1, none⟩ = some (.int .i64 o1) := cell_of_row _ _ 1 _ _ _ hO9
      have cO2 : w9.cell? ⟨g, 2, none⟩ = some (.int .i64 o2) := cell_of_row _ _ 2 _ _ _ hO9
      have cO3 : w9.cell? ⟨g, 3, none⟩ = some (.int .i64 o3) := cell_of_row _ _ 3 _ _ _ hO9
      have cO4 : w9.cell? ⟨g, 4, none⟩ = some (.int .i64 o4) := cell_of_row _ _ 4 _ _ _ hO9
      have cO5 : w9.cell? ⟨g, 5, none⟩ = some (.int .i64 o5) := cell_of_row _ _ 5 _ _ _ hO9
      have cO6 : w9.cell? ⟨g, 6, none⟩ = some (.string o6) := cell_of_row _ _ 6 _ _ _ hO9
      have cO7 : w9.cell? ⟨g, 7, none⟩ = some (.slice A7 o7.length c7) := cell_of_row _ _ 7 _ _ _ hO9
      have cO8 : w9.cell? ⟨g, 8, none⟩ = some (.string o8) := cell_of_row _ _ 8 _ _ _ hO9
      clear hO9
      go_wp2_with fail
      refine (show Calls Tryd.prog 31 #[v13, .int .i64 (o7.length : Int), .int .i64 2] w9 (WrP w w9 (L9 ++ be (o7.length : Int) 2)) from HRow9.out.put (o7.length : Int) 2 (by omega) (by have := HSZ.out; have := HLL9.out; omega)).mono ?_
      rintro e w10 ⟨v14, rfl, hr10, hs10⟩
      dsimp only
      have hO10 := hs10 g _ 24 HO9.out (by decide)
      have HRow10 := hide hr10
      have HO10 := hide hO10
      obtain ⟨L10, hL10⟩ : ∃ L, L9 ++ be (o7.length : Int) 2 = L := ⟨_, rfl⟩
      have hl10 : L10.length = lb.length + 1 + 4 + 4 + 4 + 1 + 1 + (3 + o6.size) + 2 := by rw [← hL10, List.length_append, be_length, HLL9.out]
      rw [hL10] at HRow10
      have HL10 := hide hL10
      have HLL10 := hide hl10
      clear hr10 hs10 HRow9 HO9 hL10 hl10 HLL9 cO0 cO1 cO2 cO3 cO4 cO5 cO6 cO7 cO8
      have cO0 : w10.cell? ⟨g, 0, none⟩ = some (.int .i64 o0) := cell_of_row _ _ 0 _ _ _ hO10
      have cO1 : w10.cell? ⟨g, 1, none⟩ = some (.int .i64 o1) := cell_of_row _ _ 1 _ _ _ hO10
      have cO2 : w10.cell? ⟨g, 2, none⟩ = some (.int .i64 o2) := cell_of_row _ _ 2 _ _ _ hO10
      have cO3 : w10.cell? ⟨g, 3, none⟩ = some (.int .i64 o3) := cell_of_row _ _ 3 _ _ _ hO10
      have cO4 : w10.cell? ⟨g, 4, none⟩ = some (.int .i64 o4) := cell_of_row _ _ 4 _ _ _ hO10
      have cO5 : w10.cell? ⟨g, 5, none⟩ = some (.int .i64 o5) := cell_of_row _ _ 5 _ _ _ hO10
      have cO6 : w10.cell? ⟨g, 6, none⟩ = some (.string o6) := cell_of_row _ _ 6 _ _ _ hO10
      have cO7 : w10.cell? ⟨g, 7, none⟩ = some (.slice A7 o7.length c7) := cell_of_row _ _ 7 _ _ _ hO10
      have cO8 : w10.cell? ⟨g, 8, none⟩ = some (.string o8) := cell_of_row _ _ 8 _ _ _ hO10
      clear hO10
      have ho7 := HO7.out
      go_wp2_with fail
      clear cO0 cO1 cO2 cO3 cO4 cO5 cO6 cO7 cO8
      go_loopw [4, 55] (fun b i wr => ∃ (bv : Value) (j : Nat), bv = b ∧ j ≤ o7.length ∧ i = .int .i64 (j : Int) ∧ Aside0 (Row w bv (L10 ++ (o7.take j).flatMap encA) wr) ∧ Aside0 (wr.heap[g]? = some (.cells #[.int .i64 o0, .int .i64 o1, .int .i64 o2, .int .i64 o3, .int .i64 o4, .int .i64 o5, .string o6, .slice A7 o7.length c7, .string o8] 24 (0, 0)))) (fun _ i _ => o7.length - (intOf i).toNat)
      case atStart => exact ⟨_, 0, rfl, Nat.zero_le _, rfl, ⟨by rw [List.take_zero, List.flatMap_nil, List.append_nil]; exact HRow10.out⟩, ⟨HO10.out⟩⟩
      case round =>
        clear HRow10 HO10
        obtain ⟨bv, j, rfl, hj, rfl, HRj, HOj⟩ := hrel
        have hleA0 := encA_len o7 j hj
        have HLA0 := hide hleA0
        clear hleA0
        by_cases hjl : j < o7.length
        · obtain ⟨ax, hA7, x0c, x1c⟩ := at_T32 (Kd.C_below HC7.out HRj.out.all) (j : Int) (by omega) (by omega)
          rw [Int.toNat_natCast] at x0c x1c
          have hxx : rd_T32 o7 (j : Int) = o7[j] := by
            unfold rd_T32
            rw [Int.toNat_natCast, List.getD_eq_getElem?_getD, List.getElem?_eq_getElem hjl]
            rfl
          have hsA := encA_take o7 j hjl
          have hlA := encA_len o7 (j + 1) (by omega)
          rw [hsA, List.length_append] at hlA
          rw [hxx] at x0c x1c
          obtain ⟨⟨x0, x1⟩, hx'⟩ : ∃ x, o7[j] = x := ⟨_, rfl⟩
          rw [hx'] at hsA hlA x0c x1c
          dsimp only at x0c x1c
          obtain ⟨LB, hLB⟩ : ∃ L, L10 ++ (o7.take j).flatMap encA = L := ⟨_, rfl⟩
          have hlb : LB.length + (3 + x0.size) + (3 + x1.size) + 100 ≤ 100000000100 := by
            have h1 := HSZ.out
            have h2 := HLL10.out
            have hex : (encA ⟨x0, x1⟩).length = (3 + x0.size) + (3 + x1.size) := by unfold encA; rw [List.length_append, txt_length, txt_length]
            rw [hex] at hlA
            rw [← hLB, List.length_append]
            omega
          have HLB := hide hlb
          have hsA2 : L10 ++ (o7.take (j + 1)).flatMap encA = LB ++ OpP.txt x0 ++ OpP.txt x1 := by
            rw [hsA, ← List.append_assoc, hLB]
            show LB ++ (OpP.txt x0 ++ OpP.txt x1) = _
            rw [List.append_assoc]
          have HSA := hide hsA2
          have HRJ := hide HRj.out
          rw [hLB] at HRJ
          have HOJ := hide HOj.out
          have hxn := heap_alloc_new wr (.cells #[.string x0, .string x1] 32)
          have bx := below_alloc (Below.refl wr.heap.size wr) (.cells #[.string x0, .string x1] 32)
          obtain ⟨w11, hw11⟩ : ∃ w11, wr.alloc (.cells #[.string x0, .string x1] 32) = w11 := ⟨_, rfl⟩
          rw [hw11] at hxn bx
          obtain ⟨gx, hgx⟩ : ∃ g, wr.heap.size = g := ⟨_, rfl⟩
          rw [hgx] at hxn
          have HRX := hide (HRJ.out.below bx)
          have HOX := hide ((bx.block _ (blk_lt HOJ.out)).trans HOJ.out)
          have HXB := hide hxn
          have HW11 := hide hw11
          have HGX := hide hgx
          have j1 : (j : Int) < (o7.length : Int) := by omega
          have j2 : (0 : Int) ≤ (j : Int) := by omega
          subst hA7
          clear hxx hsA hlA hx' hlb hsA2 HRj HOj HRJ HOJ hxn bx hw11 hgx hLB
          go_upto_region 14 with fail
          rw [HW11.out, HGX.out]
          have HP1 := hide (fun W (h : Row w bv LB W) => h.txt x0 (by have := HLB.out; omega))
          have HP2 := hide (fun v W (h : Row w v (LB ++ OpP.txt x0) W) => h.txt x1 (by have := HLB.out; rw [List.length_append, txt_length]; omega))
          have hX0 := cell_of_row _ _ 0 _ _ _ HXB.out
          have hX1 := cell_of_row _ _ 1 _ _ _ HXB.out
          clear x0c x1c
          go_region_held3 (fun W => W.cell? ⟨gx, 0, none⟩ = some (.string x0) ∧ W.cell? ⟨gx, 1, none⟩ = some (.string x1))
            (first | exact x01 HXB.out | exact x01 hq1 | exact x01 hq2)
            (first | (go_at_call 32; (with_reducible refine (HP1.out _ ?_).mono ?_); (repeat (first | exact HRX.out | apply Row.drew | apply Row.drewN)); rintro e wn1 ⟨v21, rfl, hr1, hs1⟩; have hq1 := hs1 gx _ 32 HXB.out (by decide); have ho1 := hs1 g _ 24 HOX.out (by decide)) | (go_at_call 32; (with_reducible refine (HP2.out _ _ ?_).mono ?_); (repeat (first | exact hr1 | apply Row.drew | apply Row.drewN)); rintro e wn2 ⟨v22, rfl, hr2, hs2⟩; have hq2 := hs2 gx _ 32 hq1 (by decide); have ho2 := hs2 g _ 24 ho1 (by decide)))
          have HR2 := hide hr2
          have HO2 := hide ho2
          clear hr1 hr2 hs1 hs2 hq1 hq2 ho1 ho2 HP1 HP2 hX0 hX1
          go_wp2_with fail
          go_roundw
          case rel => exact ⟨_, j + 1, rfl, by omega, by go_num, ⟨by rw [HSA.out]; exact HR2.out⟩, ⟨HO2.out⟩⟩
          case measure => simp only [intOf]; omega
        · have hjn : j = o7.length := by omega
          have HRE := hide HRj.out
          rw [hjn, List.take_length] at HRE
          have hOE := HOj.out
          have HOE := hide hOE
          have j1 : ¬ (j : Int) < (o7.length : Int) := by omega
          have cO0 : wr.cell? ⟨g, 0, none⟩ = some (.int .i64 o0) := cell_of_row _ _ 0 _ _ _ hOE
          have cO1 : wr.cell? ⟨g, 1, none⟩ = some (.int .i64 o1) := cell_of_row _ _ 1 _ _ _ hOE
          have cO2 : wr.cell? ⟨g, 2, none⟩ = some (.int .i64 o2) := cell_of_row _ _ 2 _ _ _ hOE
          have cO3 : wr.cell? ⟨g, 3, none⟩ = some (.int .i64 o3) := cell_of_row _ _ 3 _ _ _ hOE
          have cO4 : wr.cell? ⟨g, 4, none⟩ = some (.int .i64 o4) := cell_of_row _ _ 4 _ _ _ hOE
          have cO5 : wr.cell? ⟨g, 5, none⟩ = some (.int .i64 o5) := cell_of_row _ _ 5 _ _ _ hOE
          have cO6 : wr.cell? ⟨g, 6, none⟩ = some (.string o6) := cell_of_row _ _ 6 _ _ _ hOE
          have cO7 : wr.cell? ⟨g, 7, none⟩ = some (.slice A7 o7.length c7) := cell_of_row _ _ 7 _ _ _ hOE
          have cO8 : wr.cell? ⟨g, 8, none⟩ = some (.string o8) := cell_of_row _ _ 8 _ _ _ hOE
          have hlE : (L10 ++ o7.flatMap encA).length + o8.size + 4 < 140737488355328 := by
            have h1 := HSZ.out
            have h2 := HLL10.out
            rw [List.length_append]
            omega
          have HLE := hide hlE
          have hfin : encL (l.take (k + 1)) = (L10 ++ o7.flatMap encA) ++ OpP.txt o8 := by
            rw [HST.out, ← HL10.out, ← HL9.out, ← HL8.out, ← HL4.out]
            unfold encO encH
            simp only [List.append_assoc]
          have HFIN := hide hfin
          clear hjn HRj HOj hOE hlE hfin hjl
          go_wp2_with fail
          refine (HRE.out.txt o8 HLE.out).mono ?_
          rintro e w12 ⟨v31, rfl, hr12, -⟩
          dsimp only
          have HR12 := hide hr12
          clear hr12 cO0 cO1 cO2 cO3 cO4 cO5 cO6 cO7 cO8
          go_wp2_with fail
          go_roundw
          case rel => exact ⟨k + 1, by omega, by go_num, ⟨⟨by rw [HFIN.out]; exact HR12.out, HOK.out⟩⟩⟩
          case measure => simp only [intOf]; omega
    · have hkn : k = l.length := by have := HN.out; omega
      have k1 : ¬ (k : Int) < (n : Int) := by omega
      rw [hkn, List.take_length] at hall
      have HALL := hide hall
      have HRF := hide (show Row w (.slice Ab (encL (l.take k)).length cb) (encL (l.take k)) wr from ⟨Ab, cb, rfl, hR, hB⟩)
      have hek : encL (l.take k) = encL l := by rw [hkn, List.take_length]
      rw [hek] at HRF ⊢
      clear hkn hR hB hall hrel hek
      go_wp2_with fail
      go_ret2
      refine ⟨HRF.out.all, ?_⟩
      rw [if_pos HALL.out]
      exact ⟨_, rfl, HRF.out⟩
end Go.Proofs.YtbljbgjecnmeeaaDoor.OpP
