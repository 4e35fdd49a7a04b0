/- The walk of op.Text: an operation as text. -/
import Derived.Test.YtbljbgjecnmeeaaDoorOpBld
import Derived.Outline
namespace Go.Proofs.YtbljbgjecnmeeaaDoor.OpP
open Go.RowKit Go.Proofs.YtbljbgjecnmeeaaDoor.POpTells Go.Proofs.YtbljbgjecnmeeaaDoorW.PrintWords Go.Proofs.YtbljbgjecnmeeaaDoorW.PrintLast
set_option linter.unusedVariables false
set_option linter.unusedSimpArgs false
/-- Numbers, a blank between them. -/
def numP : List Int → List UInt8
  | [] => []
  | x :: r => Lib.itoa x ++ r.flatMap (fun y => 32 :: Lib.itoa y)
def bts (s : ByteArray) : List UInt8 := s.data.toList
def attrSeg (x : S32) : List UInt8 := [32] ++ bts x.f0 ++ [61] ++ bts x.f1
def headP (o : S24) : List UInt8 := numP [o.f0, o.f1, o.f2, o.f3, o.f4, o.f5]
/-- An operation as text. -/
def textL (o : S24) : List UInt8 := headP o ++ (32 :: bts o.f6) ++ o.f7.flatMap attrSeg ++ ([32, 34] ++ bts o.f8 ++ [34])
theorem numP_take (a b c d e f : Int) : ∀ k, k < 6 → numP ([a, b, c, d, e, f].take (k + 1)) = numP ([a, b, c, d, e, f].take k) ++ ((if k = 0 then [] else [32]) ++ Lib.itoa ([a, b, c, d, e, f].getD k 0))
  | 0, _ => by simp [numP]
  | 1, _ => by simp [numP]
  | 2, _ => by simp [numP]
  | 3, _ => by simp [numP]
  | 4, _ => by simp [numP]
  | 5, _ => by simp [numP]
  | _ + 6, h => absurd h (by omega)
theorem attrs_take (l : List S32) (k : Nat) (h : k < l.length) : (l.take (k + 1)).flatMap attrSeg = (l.take k).flatMap attrSeg ++ attrSeg l[k] := by
  rw [List.take_succ_eq_append_getElem h, List.flatMap_append]
  simp
theorem attrs_len (l : List S32) (k : Nat) (h : k ≤ l.length) : ((l.take k).flatMap attrSeg).length ≤ (l.flatMap attrSeg).length := by
  have : l.flatMap attrSeg = (l.take k).flatMap attrSeg ++ (l.drop k).flatMap attrSeg := by rw [← List.flatMap_append, List.take_append_drop]
  rw [this, List.length_append]
  omega
theorem numP_len (a b c d e f : Int) : ∀ k, k ≤ 6 → (numP ([a, b, c, d, e, f].take k)).length ≤ (numP [a, b, c, d, e, f]).length
  | 0, _ => by simp [numP]
  | 1, _ => by simp [numP]
  | 2, _ => by simp [numP]
  | 3, _ => by simp [numP]
  | 4, _ => by simp [numP]
  | 5, _ => by simp [numP]
  | 6, _ => by simp [numP]
  | _ + 7, h => absurd h (by omega)
theorem mk_data (l : List UInt8) : (⟨l.toArray⟩ : ByteArray).data.toList = l := by simp
theorem mk_size (l : List UInt8) : (⟨l.toArray⟩ : ByteArray).size = l.length := rfl
theorem sz1 (s : ByteArray) : ((⟨#[32]⟩ : ByteArray) ++ s).size = 1 + s.size := by rw [ByteArray.size_append]; rfl
theorem sz3 (a b : ByteArray) : ((((⟨#[32]⟩ : ByteArray) ++ a) ++ ⟨#[61]⟩) ++ b).size = 1 + a.size + 1 + b.size := by rw [ByteArray.size_append, ByteArray.size_append, sz1]; rfl
theorem sz2 (a : ByteArray) : (((⟨#[32, 34]⟩ : ByteArray) ++ a) ++ ⟨#[34]⟩).size = 2 + a.size + 1 := by rw [ByteArray.size_append, ByteArray.size_append]; rfl
def TabOk (w : World) : Prop := Lib.TabIs Tryd.prog w "internal/strconv.uint64pow10" .u64 Lib.pow10Tab
theorem TabOk.below {w w' : World} (h : TabOk w) (hb : Below w.heap.size w w') : TabOk w' := by
  obtain ⟨g, hg⟩ : ∃ g, Tryd.prog.globalNamed "internal/strconv.uint64pow10" = some g := by
    have h1 : (Tryd.prog.globalNamed "internal/strconv.uint64pow10").isSome = true := by kernel_rfl
    exact Option.isSome_iff_exists.1 h1
  exact Joins.tab_stays hg h hb (Nat.le_refl _)
theorem itoaB (n : Int) (h0 : -9223372036854775808 ≤ n) (h1 : n ≤ 9223372036854775807) (w : World) (ht : TabOk w) :
    Calls Tryd.prog 28 #[.int .i64 n] w fun e w' => e = .returned (.string ⟨(Lib.itoa n).toArray⟩) ∧ Below w.heap.size w w' :=
  (Tryd.strconv_Itoa n h0 h1 w ht).mono fun e w' ⟨he, k, os, hw⟩ => ⟨he, by rw [hw]; exact Lib.below_grow _ _ (Nat.le_refl _) _ _⟩
/-- The builder holds these bytes; the operation's own block stands. -/
def Bld (w : World) (cs : Array Value) (bs : List UInt8) (wr : World) : Prop := Lib.IsBuilderF 59 5 (w.heap.size + 1) (w.heap.size + 1) (Lib.byteCells bs) wr ∧ wr.heap[w.heap.size]? = some (.cells cs 24 (0, 0)) ∧ Below w.heap.size w wr
theorem Bld.below {w : World} {cs : Array Value} {bs : List UInt8} {wr w' : World} (h : Bld w cs bs wr) (hb : Below wr.heap.size wr w') : Bld w cs bs w' := ⟨bldBelow h.1 hb, (hb.block _ (blk_lt h.2.1)).trans h.2.1, below_step h.2.2 hb⟩
/-- A string is written. -/
def WroteP (w : World) (cs : Array Value) (bs : List UInt8) (s : ByteArray) (wr : World) (e : Ending) (w' : World) : Prop := e = .returned (.tuple #[.int .i64 s.size, .nilIface]) ∧ Bld w cs (bs ++ bts s) w' ∧ Beside (w.heap.size + 1) wr w'
theorem wrote {w : World} {cs : Array Value} {bs : List UInt8} {wr : World} (h : Bld w cs bs wr) (s : ByteArray) (hl : bs.length + s.size ≤ 100000000000) :
    Calls Tryd.prog 27 #[.pointer (some ⟨w.heap.size + 1, 0, none⟩), .string s] wr (WroteP w cs bs s wr) := by
  have hsz : w.heap.size + 1 ≤ wr.heap.size := by have := blk_lt h.2.1; omega
  refine (writeString (w.heap.size + 1) (w.heap.size + 1) _ s wr h.1 (by rw [Lib.byteCells_length]; omega) hsz).mono ?_
  rintro e w' ⟨rfl, ⟨hA, hb⟩, hbs⟩
  refine ⟨rfl, ⟨.inr ?_, hbs _ _ _ h.2.1 (by decide) (by omega), h.2.2.trans (hb.mono (by omega))⟩, hbs⟩
  rw [Lib.strCells_eq, ← Lib.byteCells_append] at hA
  exact hA
def I64 (n : Int) : Prop := -9223372036854775808 ≤ n ∧ n ≤ 9223372036854775807
set_option maxHeartbeats 8000000 in
set_option maxRecDepth 100000 in
theorem text (o : S24) (A : Option Addr) (c : Nat) (w : World) (hC : k32.C w A o.f7.length o.f7) (hi : I64 o.f0 ∧ I64 o.f1 ∧ I64 o.f2 ∧ I64 o.f3 ∧ I64 o.f4 ∧ I64 o.f5) (hlen : (textL o).length ≤ 100000000000) (ht : TabOk w) :
    Calls Tryd.prog 11 #[.agg #[.int .i64 o.f0, .int .i64 o.f1, .int .i64 o.f2, .int .i64 o.f3, .int .i64 o.f4, .int .i64 o.f5, .string o.f6, .slice A o.f7.length c, .string o.f8]] w fun e w' => e = .returned (.string ⟨(textL o).toArray⟩) ∧ Below w.heap.size w w' := by
  obtain ⟨o0, o1, o2, o3, o4, o5, o6, o7, o8⟩ := o
  dsimp only at hC hi ⊢
  have hl1 : (numP [o0, o1, o2, o3, o4, o5]).length + (1 + o6.size) + (o7.flatMap attrSeg).length + (3 + o8.size) ≤ 100000000000 := by
    have h := hlen
    unfold textL headP bts at h
    simp only [List.length_append, List.length_cons, List.length_nil, Array.length_toList] at h
    have e6 : o6.size = o6.data.size := rfl
    have e8 : o8.size = o8.data.size := rfl
    omega
  have HLEN := hide hl1
  have HT := hide ht
  have HC := hide hC
  have HI := hide hi
  have ho7 := hC.2.1
  unfold maxLen at ho7
  have HO7 := hide ho7
  clear hl1 hlen ht hC hi ho7
  have hX := heap_alloc_new w (.cells #[.int .i64 o0, .int .i64 o1, .int .i64 o2, .int .i64 o3, .int .i64 o4, .int .i64 o5, .string o6, .slice A o7.length c, .string o8] 24)
  have b1 := below_alloc (Below.refl w.heap.size w) (.cells #[.int .i64 o0, .int .i64 o1, .int .i64 o2, .int .i64 o3, .int .i64 o4, .int .i64 o5, .string o6, .slice A o7.length c, .string o8] 24)
  obtain ⟨w1, hw1⟩ : ∃ w1, w.alloc (.cells #[.int .i64 o0, .int .i64 o1, .int .i64 o2, .int .i64 o3, .int .i64 o4, .int .i64 o5, .string o6, .slice A o7.length c, .string o8] 24) = w1 := ⟨_, rfl⟩
  have hs1 : w1.heap.size = w.heap.size + 1 := by rw [← hw1]; simp
  rw [hw1] at hX b1
  have hF := Lib.fresh_isBuilder 59 5 w1
  have b2 := below_alloc (Below.refl w1.heap.size w1) (.cells #[.pointer none, .slice none 0 0] 59)
  obtain ⟨w2, hw2⟩ : ∃ w2, w1.alloc (.cells #[.pointer none, .slice none 0 0] 59) = w2 := ⟨_, rfl⟩
  have hs2 : w2.heap.size = w.heap.size + 1 + 1 := by rw [← hw2]; simp [hs1]
  rw [hw2] at hF b2
  rw [hs1] at hF
  have hBl : Bld w #[.int .i64 o0, .int .i64 o1, .int .i64 o2, .int .i64 o3, .int .i64 o4, .int .i64 o5, .string o6, .slice A o7.length c, .string o8] [] w2 := ⟨Lib.IsBuilderF.of hF, (b2.block _ (blk_lt hX)).trans hX, below_step b1 b2⟩
  have b3 := below_alloc (Below.refl w2.heap.size w2) (.cells #[.int .i64 o0, .int .i64 o1, .int .i64 o2, .int .i64 o3, .int .i64 o4, .int .i64 o5] 3)
  have hR := heap_alloc_new w2 (.cells #[.int .i64 o0, .int .i64 o1, .int .i64 o2, .int .i64 o3, .int .i64 o4, .int .i64 o5] 3)
  obtain ⟨w3, hw3⟩ : ∃ w3, w2.alloc (.cells #[.int .i64 o0, .int .i64 o1, .int .i64 o2, .int .i64 o3, .int .i64 o4, .int .i64 o5] 3) = w3 := ⟨_, rfl⟩
  rw [hw3] at b3 hR
  rw [hs2] at hR
  have HBL := hide (hBl.below b3)
  have HR := hide hR
  have HW1 := hide hw1
  have HW2 := hide hw2
  have HW3 := hide hw3
  clear hX b1 hw1 hs1 hF b2 hw2 hs2 hBl b3 hR hw3
  go_enter Tryd.func11, Tryd.ntmps11
  go_wp2_with fail
  rw [HW1.out, HW2.out, HW3.out]
  go_loopw [4, 5, 22] (fun _ _ i wr => ∃ k : Nat, k ≤ 6 ∧ i = .int .i64 (k : Int) ∧ Aside0 (Bld w #[.int .i64 o0, .int .i64 o1, .int .i64 o2, .int .i64 o3, .int .i64 o4, .int .i64 o5, .string o6, .slice A o7.length c, .string o8] (numP ([o0, o1, o2, o3, o4, o5].take k)) wr) ∧ Aside0 (wr.heap[w.heap.size + 1 + 1]? = some (.cells #[.int .i64 o0, .int .i64 o1, .int .i64 o2, .int .i64 o3, .int .i64 o4, .int .i64 o5] 3 (0, 0)))) (fun _ _ i _ => 6 - (intOf i).toNat)
  case atStart => exact ⟨0, Nat.zero_le _, rfl, ⟨HBL.out⟩, ⟨HR.out⟩⟩
  case round =>
    clear HBL HR
    obtain ⟨k, hk, rfl, HBL, HR⟩ := hrel
    have hnl := numP_len o0 o1 o2 o3 o4 o5 k hk
    have HNL := hide hnl
    clear hnl
    by_cases hlt : k < 6
    · obtain ⟨x, hx, hxi, hcell⟩ : ∃ x, [o0, o1, o2, o3, o4, o5].getD k 0 = x ∧ I64 x ∧ wr.cell? ⟨w.heap.size + 1 + 1, k, none⟩ = some (.int .i64 x) := by
        have h := fun j => cell_of_row wr (w.heap.size + 1 + 1) j _ _ _ HR.out
        have hI := HI.out
        match k, hlt with
        | 0, _ => exact ⟨_, rfl, hI.1, h 0⟩
        | 1, _ => exact ⟨_, rfl, hI.2.1, h 1⟩
        | 2, _ => exact ⟨_, rfl, hI.2.2.1, h 2⟩
        | 3, _ => exact ⟨_, rfl, hI.2.2.2.1, h 3⟩
        | 4, _ => exact ⟨_, rfl, hI.2.2.2.2.1, h 4⟩
        | 5, _ => exact ⟨_, rfl, hI.2.2.2.2.2, h 5⟩
      have hst := numP_take o0 o1 o2 o3 o4 o5 k hlt
      rw [hx] at hst
      have HST := hide hst
      have HXI := hide hxi
      clear hx hxi hst
      have k1 : (k : Int) < 6 := by omega
      have k2 : (0 : Int) ≤ (k : Int) := by omega
      by_cases hk0 : k = 0
      · have k3 : ¬ (0 : Int) < (k : Int) := by omega
        have HK0 := hide hk0
        clear hk0 hlt
        go_wp2_with fail
        refine (itoaB x HXI.out.1 HXI.out.2 wr (HT.out.below HBL.out.2.2)).mono ?_
        rintro e w5 ⟨rfl, hb5⟩
        dsimp only
        have HB5 := hide (HBL.out.below hb5)
        have HR5 := hide ((hb5.block _ (blk_lt HR.out)).trans HR.out)
        clear hb5
        go_wp2_with fail
        refine (wrote HB5.out ⟨(Lib.itoa x).toArray⟩ (by have h1 := HNL.out; have h2 := HLEN.out; have h3 := Lib.itoa_length_le x HXI.out.1 HXI.out.2; have h4 := congrArg List.length HST.out; rw [if_pos HK0.out, List.nil_append, List.length_append] at h4; have h5 := numP_len o0 o1 o2 o3 o4 o5 (k + 1) (by omega); rw [mk_size]; omega)).mono ?_
        rintro e w6 ⟨rfl, hB6, hS6⟩
        dsimp only
        have hB6' : Bld w #[.int .i64 o0, .int .i64 o1, .int .i64 o2, .int .i64 o3, .int .i64 o4, .int .i64 o5, .string o6, .slice A o7.length c, .string o8] (numP ([o0, o1, o2, o3, o4, o5].take (k + 1))) w6 := by
          rw [HST.out, if_pos HK0.out, List.nil_append]
          unfold bts at hB6
          rw [mk_data] at hB6
          exact hB6
        have HB6 := hide hB6'
        have HR6 := hide (hS6 _ _ _ HR5.out (by decide) (by omega))
        clear hB6 hS6 hB6' HB5 HR5 hcell
        go_wp2_with fail
        go_roundw
        case rel => exact ⟨k + 1, by omega, by go_num, ⟨HB6.out⟩, ⟨HR6.out⟩⟩
        case measure => simp only [intOf]; omega
      · have k3 : (0 : Int) < (k : Int) := by omega
        have HK0 := hide hk0
        clear hk0 hlt
        go_wp2_with fail
        have hle : (numP ([o0, o1, o2, o3, o4, o5].take k)).length + (1 + (Lib.itoa x).length) ≤ 100000000000 := by
          have h2 := HLEN.out
          have h4 := congrArg List.length HST.out
          rw [if_neg HK0.out, List.length_append, List.length_append] at h4
          have h5 := numP_len o0 o1 o2 o3 o4 o5 (k + 1) (by omega)
          simp only [List.length_cons, List.length_nil] at h4
          omega
        have HLE := hide hle
        clear hle
        refine (wrote HBL.out ⟨#[32]⟩ (by have := HLE.out; show _ + 1 ≤ _; omega)).mono ?_
        rintro e w4 ⟨rfl, hB4, hS4⟩
        dsimp only
        have HB4 := hide hB4
        have HR4 := hide (hS4 _ _ _ HR.out (by decide) (by omega))
        clear hB4 hS4 hcell
        go_wp2_with fail
        refine (itoaB x HXI.out.1 HXI.out.2 w4 (HT.out.below HB4.out.2.2)).mono ?_
        rintro e w5 ⟨rfl, hb5⟩
        dsimp only
        have HB5 := hide (HB4.out.below hb5)
        have HR5 := hide ((hb5.block _ (blk_lt HR4.out)).trans HR4.out)
        clear hb5
        go_wp2_with fail
        refine (wrote HB5.out ⟨(Lib.itoa x).toArray⟩ (by have := HLE.out; rw [mk_size, List.length_append]; show _ + 1 + _ ≤ _; omega)).mono ?_
        rintro e w6 ⟨rfl, hB6, hS6⟩
        dsimp only
        have hB6' : Bld w #[.int .i64 o0, .int .i64 o1, .int .i64 o2, .int .i64 o3, .int .i64 o4, .int .i64 o5, .string o6, .slice A o7.length c, .string o8] (numP ([o0, o1, o2, o3, o4, o5].take (k + 1))) w6 := by
          rw [HST.out, if_neg HK0.out]
          unfold bts at hB6
          rw [mk_data, List.append_assoc] at hB6
          exact hB6
        have HB6 := hide hB6'
        have HR6 := hide (hS6 _ _ _ HR5.out (by decide) (by omega))
        clear hB6 hS6 hB6' HB5 HR5
        go_wp2_with fail
        go_roundw
        case rel => exact ⟨k + 1, by omega, by go_num, ⟨HB6.out⟩, ⟨HR6.out⟩⟩
        case measure => simp only [intOf]; omega
    · have k1 : ¬ (k : Int) < 6 := by omega
      have hk6 : k = 6 := by omega
      have hB := HBL.out
      rw [hk6] at hB
      have hB' : Bld w #[.int .i64 o0, .int .i64 o1, .int .i64 o2, .int .i64 o3, .int .i64 o4, .int .i64 o5, .string o6, .slice A o7.length c, .string o8] (numP [o0, o1, o2, o3, o4, o5]) wr := hB
      have c6 : wr.cell? ⟨w.heap.size, 6, none⟩ = some (.string o6) := cell_of_row _ _ 6 _ _ _ hB'.2.1
      have HB := hide hB'
      have n1 : ¬ 9223372036854775807 < 1 + o6.size := by have := HLEN.out; omega
      have HSZ := hide (show (numP [o0, o1, o2, o3, o4, o5]).length + (1 + o6.size) ≤ 100000000000 by have := HLEN.out; omega)
      clear hB hB' HBL HR HNL hk6 hlt hk
      go_wp2_with fail
      refine (wrote HB.out _ (by rw [sz1]; exact HSZ.out)).mono ?_
      rintro e w4 ⟨rfl, hB4, -⟩
      dsimp only
      have hB4' : Bld w #[.int .i64 o0, .int .i64 o1, .int .i64 o2, .int .i64 o3, .int .i64 o4, .int .i64 o5, .string o6, .slice A o7.length c, .string o8] (numP [o0, o1, o2, o3, o4, o5] ++ (32 :: bts o6) ++ (o7.take 0).flatMap attrSeg) w4 := by
        unfold bts at hB4 ⊢
        rw [ByteArray.data_append, Array.toList_append] at hB4
        simpa using hB4
      have c7 : w4.cell? ⟨w.heap.size, 7, none⟩ = some (.slice A o7.length c) := cell_of_row _ _ 7 _ _ _ hB4.2.1
      have HB4 := hide hB4'
      clear hB4 hB4' HB c6 n1
      have ho7 : (o7.length : Int) ≤ 9223372036854775807 := by have := HO7.out; omega
      go_wp2_with fail
      clear c7
      go_loopw [41] (fun i wr => ∃ k : Nat, k ≤ o7.length ∧ i = .int .i64 (k : Int) ∧ Aside0 (Bld w #[.int .i64 o0, .int .i64 o1, .int .i64 o2, .int .i64 o3, .int .i64 o4, .int .i64 o5, .string o6, .slice A o7.length c, .string o8] (numP [o0, o1, o2, o3, o4, o5] ++ (32 :: bts o6) ++ (o7.take k).flatMap attrSeg) wr)) (fun i _ => o7.length - (intOf i).toNat)
      case atStart => exact ⟨0, Nat.zero_le _, rfl, ⟨HB4.out⟩⟩
      case round =>
        clear HB4
        obtain ⟨k, hk, rfl, HBL⟩ := hrel
        by_cases hlt : k < o7.length
        · obtain ⟨ad, hA, e0, e1⟩ := at_T32 (Kd.C_below HC.out HBL.out.2.2) (k : Int) (by omega) (by omega)
          rw [Int.toNat_natCast] at e0 e1
          have hx : rd_T32 o7 (k : Int) = o7[k] := by
            unfold rd_T32
            rw [Int.toNat_natCast, List.getD_eq_getElem?_getD, List.getElem?_eq_getElem hlt]
            rfl
          have hst := attrs_take o7 k hlt
          have hle := attrs_len o7 (k + 1) (by omega)
          rw [hst] at hle
          rw [hx] at e0 e1
          obtain ⟨⟨x0, x1⟩, hx'⟩ : ∃ x, o7[k] = x := ⟨_, rfl⟩
          rw [hx'] at hst hle e0 e1
          dsimp only at e0 e1
          have hln : (numP [o0, o1, o2, o3, o4, o5] ++ (32 :: bts o6) ++ (o7.take k).flatMap attrSeg).length + (2 + x0.size + x1.size) ≤ 100000000000 := by
            have h2 := HLEN.out
            have e6 : o6.size = o6.data.size := rfl
            have e7 : x0.size = x0.data.size := rfl
            have e8 : x1.size = x1.data.size := rfl
            unfold attrSeg bts at *
            simp only [List.length_append, List.length_cons, List.length_nil, Array.length_toList] at h2 hle ⊢
            omega
          have HST := hide hst
          have HLN := hide hln
          have k1 : (k : Int) < (o7.length : Int) := by omega
          have k2 : (0 : Int) ≤ (k : Int) := by omega
          have n1 : ¬ 9223372036854775807 < 1 + x0.size := by omega
          have n2 : ¬ 9223372036854775807 < 1 + x0.size + 1 := by omega
          have n3 : ¬ 9223372036854775807 < 1 + x0.size + 1 + x1.size := by omega
          have HSZ3 := hide (show (numP [o0, o1, o2, o3, o4, o5] ++ (32 :: bts o6) ++ (o7.take k).flatMap attrSeg).length + (1 + x0.size + 1 + x1.size) ≤ 100000000000 by omega)
          subst hA
          clear hx hx' hst hle hln hlt hk
          go_wp2_with fail
          have HB5 := hide (HBL.out.below (below_alloc (Below.refl wr.heap.size wr) (.cells #[.string x0, .string x1] 32)))
          refine (wrote HB5.out _ (by rw [sz3]; exact HSZ3.out)).mono ?_
          rintro e w6 ⟨rfl, hB6, -⟩
          dsimp only
          have hB6' : Bld w #[.int .i64 o0, .int .i64 o1, .int .i64 o2, .int .i64 o3, .int .i64 o4, .int .i64 o5, .string o6, .slice (some ad) o7.length c, .string o8] (numP [o0, o1, o2, o3, o4, o5] ++ (32 :: bts o6) ++ (o7.take (k + 1)).flatMap attrSeg) w6 := by
            rw [HST.out, ← List.append_assoc]
            have hbt : bts (((⟨#[32]⟩ ++ x0) ++ ⟨#[61]⟩) ++ x1) = attrSeg ⟨x0, x1⟩ := by
              unfold attrSeg bts
              rw [ByteArray.data_append, Array.toList_append, ByteArray.data_append, Array.toList_append, ByteArray.data_append, Array.toList_append]
            rw [hbt] at hB6
            exact hB6
          have HB6 := hide hB6'
          clear hB6 hB6' HB5 HBL e0 e1 n1 n2 n3
          go_wp2_with fail
          go_roundw
          case rel => exact ⟨k + 1, by omega, by go_num, ⟨HB6.out⟩⟩
          case measure => simp only [intOf]; omega
        · have k1 : ¬ (k : Int) < (o7.length : Int) := by omega
          have hkl : k = o7.length := by omega
          have hB := HBL.out
          rw [hkl, List.take_length] at hB
          have c8 : wr.cell? ⟨w.heap.size, 8, none⟩ = some (.string o8) := cell_of_row _ _ 8 _ _ _ hB.2.1
          have HB := hide hB
          have n1 : ¬ 9223372036854775807 < 2 + o8.size := by have := HLEN.out; omega
          have n2 : ¬ 9223372036854775807 < 2 + o8.size + 1 := by have := HLEN.out; omega
          have HSZ2 := hide (show (numP [o0, o1, o2, o3, o4, o5] ++ (32 :: bts o6) ++ o7.flatMap attrSeg).length + (2 + o8.size + 1) ≤ 100000000000 by have h2 := HLEN.out; have e6 : o6.size = o6.data.size := rfl; simp only [List.length_append, List.length_cons, bts, Array.length_toList]; omega)
          clear hB HBL hkl hlt hk
          go_wp2_with fail
          refine (wrote HB.out _ (by rw [sz2]; exact HSZ2.out)).mono ?_
          rintro e w6 ⟨rfl, hB6, -⟩
          dsimp only
          have hB6' : Bld w #[.int .i64 o0, .int .i64 o1, .int .i64 o2, .int .i64 o3, .int .i64 o4, .int .i64 o5, .string o6, .slice A o7.length c, .string o8] (textL ⟨o0, o1, o2, o3, o4, o5, o6, o7, o8⟩) w6 := by
            have hbt : bts ((⟨#[32, 34]⟩ ++ o8) ++ ⟨#[34]⟩) = [32, 34] ++ bts o8 ++ [34] := by
              unfold bts
              rw [ByteArray.data_append, Array.toList_append, ByteArray.data_append, Array.toList_append]
            rw [hbt] at hB6
            exact hB6
          have HB6 := hide hB6'
          clear hB6 hB6' HB c8 n1 n2
          go_wp2_with fail
          refine (Tryd.Builder_String_any_f (w.heap.size + 1) (w.heap.size + 1) _ w6 HB6.out.1 (by have := blk_lt HB6.out.2.1; omega)).mono ?_
          rintro e w7 ⟨rfl, -, hb7⟩
          dsimp only
          have HB7 := hide (HB6.out.2.2.trans (hb7.mono (by omega)))
          clear hb7
          go_wp2_with fail
          go_ret
          exact ⟨rfl, HB7.out⟩
end Go.Proofs.YtbljbgjecnmeeaaDoor.OpP
