/- The walks of strings.Builder's copyCheck and WriteString at this program. The walk of compare.Text, for small numbers. -/
import Derived.Test.YteglfgmgpbablaaDoorCmpBase
import Derived.Shelf.Strings.BuilderF
import Derived.Test.YteglfgmgpbablaaDoorShelf
namespace Go.Proofs.YteglfgmgpbablaaDoor.Cmp
open Go.RowKit Go.Proofs.YteglfgmgpbablaaDoorW.PrintWords Go.Proofs.YteglfgmgpbablaaDoorW.PrintLast
theorem sizeBld : (Tryd.prog.info? 65).map (·.size) = some 2 := by kernel_rfl
theorem liesBld : liesAt Tryd.prog Tryd.prog.depth 65 (2 / Tryd.prog.cellsOf 65) 0 65 1 = true := by kernel_rfl
theorem info5 : (Tryd.prog.info? 5).map (fun i => (i.zero, i.size, i.bytes)) = some (some (.int .u8 0), 1, 1) := by kernel_rfl
set_option maxHeartbeats 1000000 in
set_option maxRecDepth 100000 in
theorem copyFresh (b : Nat) (w : World) (h0 : w.cell? ⟨b, 0, none⟩ = some (.pointer none)) (hsh : w.shape? b = some (65, 2)) (hfz : w.frozen? ⟨b, 0, none⟩ = false) :
    Calls Tryd.prog 44 #[.pointer (some ⟨b, 0, none⟩)] w fun e w' => e = .returned (.tuple #[]) ∧ w' = w.setCell ⟨b, 0, none⟩ (.pointer (some ⟨b, 0, none⟩)) := by
  obtain ⟨j, hj, hjs⟩ := Option.map_eq_some_iff.1 sizeBld
  go_enter Tryd.func44, Tryd.ntmps44
  go_wp2
  rw [Lib.run_to_unsafe w ⟨b, 0, none⟩ Tryd.underlying62 Tryd.underlying91 hj (by rw [hjs]; decide) hsh (Nat.zero_lt_succ 1)]
  simp only [Result.andThen]
  rw [Oper.upon_value]
  go_wp2
  rw [run_callFunc_extern Tryd.func52 (by kernel_rfl) (by kernel_rfl) (by kernel_rfl) (e := Extern.AbiNoEscape.same) (by kernel_rfl)]
  rw [Lib.run_noEscape]
  simp only [Result.andThen]
  rw [Oper.upon_value]
  go_wp2
  rw [Lib.run_from_unsafe w ⟨b, 0, none⟩ Tryd.underlying91 Tryd.underlying62 hj hsh liesBld]
  simp only [Result.andThen]
  rw [Oper.upon_value]
  go_wp2
  go_end0
  exact ⟨rfl, rfl⟩
set_option maxHeartbeats 1000000 in
set_option maxRecDepth 100000 in
theorem copyUsed (b : Nat) (w : World) (h0 : w.cell? ⟨b, 0, none⟩ = some (.pointer (some ⟨b, 0, none⟩))) :
    Calls Tryd.prog 44 #[.pointer (some ⟨b, 0, none⟩)] w fun e w' => e = .returned (.tuple #[]) ∧ w' = w := by
  obtain ⟨j, hj, hjs⟩ := Option.map_eq_some_iff.1 sizeBld
  go_enter Tryd.func44, Tryd.ntmps44
  go_wp2
  rw [Lib.run_neq_ptr_same w _ Tryd.underlying62 hj]
  go_wp2
  go_end0
  exact ⟨rfl, rfl⟩
theorem copyCheck (B b : Nat) (bs : List Value) (w : World) (h : Lib.IsBuilderF 65 5 B b bs w) :
    Calls Tryd.prog 44 #[.pointer (some ⟨b, 0, none⟩)] w fun e w' => e = .returned (.tuple #[]) ∧ (Lib.BuilderAtF 65 5 B b (.pointer (some ⟨b, 0, none⟩)) bs w' ∧ Below B w w') := by
  rcases h with h | h
  · refine (copyFresh b w h.cell0 h.shape h.frozen0).mono ?_
    rintro e w' ⟨rfl, rfl⟩
    exact ⟨rfl, h.used _, (Below.refl B w).setCell (p := ⟨b, 0, none⟩) h.1 _⟩
  · refine (copyUsed b w h.cell0).mono ?_
    rintro e w' ⟨rfl, rfl⟩
    exact ⟨rfl, h, Below.refl B _⟩
set_option maxHeartbeats 2000000 in
set_option maxRecDepth 100000 in
theorem writeString (B b : Nat) (bs : List Value) (s : ByteArray) (w : World) (h : Lib.IsBuilderF 65 5 B b bs w) (hlen : bs.length + s.size ≤ 140737488355328) (hBw : B ≤ w.heap.size) :
    Calls Tryd.prog 30 #[.pointer (some ⟨b, 0, none⟩), .string s] w fun e w' => e = .returned (.tuple #[.int .i64 s.size, .nilIface]) ∧ (Lib.BuilderAtF 65 5 B b (.pointer (some ⟨b, 0, none⟩)) (bs ++ Lib.strCells s) w' ∧ Below B w w') := by
  obtain ⟨i0, hi, hz0, hz1, hz2⟩ := info_parts info5
  go_enter Tryd.func30, Tryd.ntmps30
  go_wp2_with (go_at_call 44; refine (copyCheck B b bs _ h).mono ?_)
  rintro e w1 ⟨rfl, h1, hb1⟩
  obtain ⟨hB, v, hbk, hown, hne⟩ := h1
  have c0 : w1.cell? ⟨b, 0, none⟩ = some (.pointer (some ⟨b, 0, none⟩)) := by rw [Lib.cell_of_heap hbk]; rfl
  have c1 : w1.cell? ⟨b, 1, none⟩ = some v := by rw [Lib.cell_of_heap hbk]; rfl
  go_wp2_with (at_builtin; refine Lib.wpList_append_own_stringF _ rfl _ _ 63 9 rfl B 5 i0 Tryd.underlying63 Tryd.underlying9 hi hz0 hz1 hz2 _ _ _ rfl hown s rfl ?c3 ?c4 ?c5 ?_)
  case c3 => unfold maxLen; omega
  case c4 => omega
  case c5 => have := hb1.size; omega
  intro v' w2 hown' hgrow _
  have hlt : b < w1.heap.size := by
    rcases Nat.lt_or_ge b w1.heap.size with h' | h'
    · exact h'
    · simp [Array.getElem?_eq_none h'] at hbk
  have hb2 : w2.heap[b]? = some (.cells #[.pointer (some ⟨b, 0, none⟩), v] 65 (0, 0)) := by
    rw [hgrow.block b hlt (fun e => hne e.symm)]
    exact hbk
  have d0 : w2.cell? ⟨b, 0, none⟩ = some (.pointer (some ⟨b, 0, none⟩)) := by rw [Lib.cell_of_heap hb2]; rfl
  have d1 : w2.cell? ⟨b, 1, none⟩ = some v := by rw [Lib.cell_of_heap hb2]; rfl
  have f1 : w2.frozen? ⟨b, 1, none⟩ = false := Lib.frozen_of_heap hb2 1
  obtain ⟨ao, n', cap, rfl⟩ : ∃ ao n' cap, v' = .slice ao n' cap := by
    rcases hown'.2 with ⟨hv, _⟩ | ⟨g, cap, cur, fz, hv, _⟩
    · exact ⟨_, _, _, hv⟩
    · exact ⟨_, _, _, hv⟩
  go_wp2
  go_ret2
  refine ⟨rfl, ?_, ?_⟩
  · exact Lib.BuilderAtF.put (T := 65) (e := 5) hB hb2 (bs' := bs ++ Lib.strCells s) (by simpa [Lib.strCells_length] using hown') (by decide)
  · exact (hb1.grown hgrow (by have := hb1.size; omega) (fun k hk => (hown.lt k hk).1)).setCell (p := ⟨b, 1, none⟩) hB _
end Go.Proofs.YteglfgmgpbablaaDoor.Cmp
namespace Go.Proofs.YteglfgmgpbablaaDoor.Cmp
open Go.RowKit Go.Proofs.YteglfgmgpbablaaDoorW.PrintWords Go.Proofs.YteglfgmgpbablaaDoorW.PrintLast
def seg (n : Nat) : List UInt8 := 47 :: Lib.decDigits n
def segs (l : List Nat) : List UInt8 := l.flatMap seg
theorem seg_len (n : Nat) (h : n < 100) : (seg n).length ≤ 4 := by
  have h : ∀ n, n < 100 → (seg n).length ≤ 4 := by decide +kernel
  exact h n (by assumption)
theorem segs_len : ∀ (l : List Nat), (∀ x ∈ l, x < 100) → (segs l).length ≤ 4 * l.length
  | [], _ => by simp [segs]
  | x :: l, h => by
    have h1 := segs_len l (fun y hy => h y (List.mem_cons_of_mem _ hy))
    have h2 := seg_len x (h x (List.mem_cons_self ..))
    unfold segs at *
    simp only [List.flatMap_cons, List.length_append, List.length_cons]
    omega
theorem segs_take (l : List Nat) (k : Nat) (h : k < l.length) : segs (l.take (k + 1)) = segs (l.take k) ++ seg (l.getD k 0) := by
  rw [List.take_add_one, List.getElem?_eq_getElem h]
  unfold segs
  rw [List.flatMap_append]
  simp [List.getD, h]
theorem seg_data (x : Nat) : ((⟨#[47]⟩ : ByteArray) ++ ⟨(Lib.decDigits x).toArray⟩).data.toList = seg x := by
  rw [ByteArray.data_append]
  simp [seg]
theorem seg_size (x : Nat) : ((⟨#[47]⟩ : ByteArray) ++ ⟨(Lib.decDigits x).toArray⟩).size = (seg x).length := by
  rw [← seg_data x, Array.length_toList]
  rfl
theorem ints_at {w : World} {A : Option Addr} {xs : List Int} (h : (Kd.int .i64).C w A xs.length xs) (i : Nat) (hi : i < xs.length) : ∃ ad, A = some ad ∧ w.cell? (ad.add i) = some (.int .i64 (xs.getD i 0)) := by
  obtain ⟨ad, rfl, hc⟩ := h.2.2 (by omega)
  obtain ⟨cs, hl, hK, hcell⟩ := hc i _ (List.getElem?_eq_getElem hi)
  have hk : cs = [.int .i64 xs[i]] := hK
  subst hk
  have h0 := hcell 0 _ rfl
  rw [show i * (Kd.int .i64).sz + 0 = i from by show i * 1 + 0 = i; omega] at h0
  exact ⟨ad, rfl, by rw [h0]; simp [List.getD, hi]⟩
set_option maxHeartbeats 4000000 in
set_option maxRecDepth 100000 in
theorem text (A : Option Addr) (c : Nat) (l : List Nat) (w : World) (hC : (Kd.int .i64).C w A (l.map Int.ofNat).length (l.map Int.ofNat)) (hl : ∀ x ∈ l, x < 100) (hn : l.length ≤ 100000) :
    Calls Tryd.prog 17 #[.slice A l.length c] w fun e w' => e = .returned (.string ⟨(if l.length = 0 then [47] else segs l).toArray⟩) ∧ Below w.heap.size w w' := by
  have HC := hide hC
  have HL := hide hl
  clear hC hl
  by_cases h0 : l.length = 0
  · have t0 : ((l.length : Int) == 0) = true := beq_iff_eq.2 (by omega)
    rw [if_pos h0]
    clear h0
    go_enter Tryd.func17, Tryd.ntmps17
    go_wp2_with fail
    go_ret
    exact ⟨rfl, Below.refl _ _⟩
  · have t0 : ((l.length : Int) == 0) = false := beq_eq_false_iff_ne.2 (by omega)
    rw [if_neg h0]
    go_enter Tryd.func17, Tryd.ntmps17
    go_wp2_with fail
    obtain ⟨w1, hw1⟩ : ∃ w1, w.alloc (.cells #[.pointer none, .slice none 0 0] 65) = w1 := ⟨_, rfl⟩
    have HF := hide (show Lib.IsBuilderF 65 5 w.heap.size w.heap.size (Lib.byteCells (segs (l.take 0))) w1 from by rw [← hw1]; exact Lib.IsBuilderF.of (Lib.fresh_isBuilder 65 5 w))
    have HB := hide (show Below w.heap.size w w1 from by rw [← hw1]; exact below_alloc (Below.refl _ _) _)
    rw [hw1]
    clear hw1
    go_loopw [5, 11] (fun _ i wr => ∃ (k : Nat), k ≤ l.length ∧ i = .int .i64 k ∧ Aside0 (Lib.IsBuilderF 65 5 w.heap.size w.heap.size (Lib.byteCells (segs (l.take k))) wr) ∧ Aside0 (Below w.heap.size w wr)) (fun _ i _ => l.length - (intOf i).toNat)
    case atStart => exact ⟨0, by omega, rfl, ⟨HF.out⟩, ⟨HB.out⟩⟩
    case round =>
      clear HF HB
      obtain ⟨k, hk, rfl, HF, HB⟩ := hrel
      by_cases hlt : k < l.length
      · obtain ⟨ad, rfl, hc⟩ := ints_at (Kd.C_below HC.out HB.out) k (by simpa using hlt)
        obtain ⟨x, hx⟩ : ∃ x, l.getD k 0 = x := ⟨_, rfl⟩
        have hgx : (l.map Int.ofNat).getD k 0 = (x : Int) := by rw [← hx]; simp [List.getD, hlt]
        rw [hgx] at hc
        have hxl : x < 100 := by
          rw [← hx]
          exact HL.out _ (by simp [List.getD, hlt])
        have k1 : (k : Int) < l.length := by omega
        have k2 : (0 : Int) ≤ k := by omega
        have HX := hide hx
        have HXL := hide hxl
        clear hgx hx hxl
        have hlen := segs_len (l.take k) (fun y hy => HL.out y (List.mem_of_mem_take hy))
        rw [List.length_take] at hlen
        have hsl := seg_len x HXL.out
        have hd : ¬ 9223372036854775807 < 1 + (Lib.decDigits x).length := by
          have : (seg x).length = (Lib.decDigits x).length + 1 := rfl
          omega
        have HLEN := hide hlen
        have HSL := hide hsl
        clear hlen hsl
        go_wp2_with fail
        refine (Tryd.strconv_Itoa_small x HXL.out wr).mono ?_
        rintro e w2 ⟨rfl, rfl⟩
        dsimp only
        go_wp2_with fail
        refine (writeString w.heap.size w.heap.size _ _ w2 HF.out (by rw [Lib.byteCells_length, seg_size]; have := HLEN.out; have := HSL.out; omega) HB.out.size).mono ?_
        rintro e w3 ⟨rfl, hf3, hb3⟩
        dsimp only
        rw [Lib.strCells_eq, seg_data, ← Lib.byteCells_append] at hf3
        have hst := segs_take l k hlt
        rw [HX.out] at hst
        rw [← hst] at hf3
        have HF3 := hide hf3
        have HB3 := hide (HB.out.trans hb3)
        clear hf3 hb3 hst HLEN HSL HF HB hc
        go_wp2_with fail
        go_roundw
        case rel => exact ⟨k + 1, by omega, by go_num, ⟨.inr HF3.out⟩, ⟨HB3.out⟩⟩
        case measure => simp only [intOf]; omega
      · have hk' : k = l.length := by omega
        have k1 : ¬ (k : Int) < l.length := by omega
        have hF := HF.out
        rw [hk', List.take_length] at hF
        have HF1 := hide hF
        clear hF HF
        go_wp2_with fail
        refine (Tryd.Builder_String_any_f w.heap.size w.heap.size (segs l) wr HF1.out HB.out.size).mono ?_
        rintro e w3 ⟨rfl, hf3, hb3⟩
        dsimp only
        have HB3 := hide (HB.out.trans hb3)
        clear hf3 hb3 HF1 HB
        go_wp2_with fail
        go_ret
        exact ⟨rfl, HB3.out⟩
end Go.Proofs.YteglfgmgpbablaaDoor.Cmp
