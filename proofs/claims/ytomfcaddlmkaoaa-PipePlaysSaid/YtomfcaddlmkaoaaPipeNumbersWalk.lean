/- The walks of arbourlaw2.known and of the law PipeNumbers: true. -/
import Derived.Test.YtomfcaddlmkaoaaPipeCalls
namespace Go.Proofs.Ytomfcaddlmkaoaa.Pipe
open Go.RowKit Go.Conc Go.Proofs.YtomfcaddlmkaoaaW.PrintWords Go.Proofs.YtomfcaddlmkaoaaW.PrintLast

theorem C_blk {α : Type} {enc : α → Value} {h1 : ∀ x, (enc x).oneCell' = true} {w : World} {g : Nat} {cs : Array Value} {t : TypeId} {fr : Nat × Nat} (h : w.heap[g]? = some (.cells cs t fr)) (xs : List α) (hcs : cs = (xs.map enc).toArray) (hm : xs.length ≤ 9223372036854775807) : (Kd.scalar enc h1).C w (some ⟨g, 0, none⟩) xs.length xs := by
  refine ⟨rfl, hm, fun _ => ⟨_, rfl, fun j p hj => ⟨[enc p], rfl, rfl, fun i u hu => ?_⟩⟩⟩
  have ea : ∀ m, (⟨g, 0, none⟩ : Addr).add m = ⟨g, m, none⟩ := by intro m; unfold Addr.add; split <;> simp_all
  rw [ea, cell_of_row w g _ cs t fr h, hcs]
  match i, hu with
  | 0, hu =>
    cases hu
    show (xs.map enc).toArray[j * 1 + 0]? = some (enc p)
    simp [hj]

set_option maxHeartbeats 2000000 in
set_option maxRecDepth 100000 in
theorem known (w : World) : Calls Try.prog 14 #[] w fun e w' => e = .returned (.bool true) ∧ Below w.heap.size w w' := by
  go_enter Try.func14, Try.ntmps14
  go_wp2_with fail
  refine (newS 2 (by omega) (by omega) w).mono ?_
  rintro e w1 ⟨rfl, hb, hsz, hp⟩
  have HP := hide (hp.below (below_alloc (Below.refl _ _) (.cells #[.string ⟨#[97]⟩, .string ⟨#[98]⟩, .string ⟨#[99]⟩] 9)))
  have HB := hide (below_step hb (below_alloc (Below.refl w1.heap.size w1) (.cells #[.string ⟨#[97]⟩, .string ⟨#[98]⟩, .string ⟨#[99]⟩] 9)))
  have hc := C_blk (enc := Value.string) (h1 := fun _ => rfl) (heap_alloc_new w1 (.cells #[.string ⟨#[97]⟩, .string ⟨#[98]⟩, .string ⟨#[99]⟩] 9)) [⟨#[97]⟩, ⟨#[98]⟩, ⟨#[99]⟩] (by simp) (by simp)
  have hln : ([⟨#[97]⟩, ⟨#[98]⟩, ⟨#[99]⟩] : List ByteArray).length = 3 := rfl
  obtain ⟨L, hL⟩ : ∃ L, ([⟨#[97]⟩, ⟨#[98]⟩, ⟨#[99]⟩] : List ByteArray) = L := ⟨_, rfl⟩
  rw [hL] at hc hln
  have HC := hide hc
  have HLN := hide hln
  have hle : w.heap.size ≤ (w1.alloc (.cells #[.string ⟨#[97]⟩, .string ⟨#[98]⟩, .string ⟨#[99]⟩] 9)).heap.size := by have := hb.size; simp; omega
  have HLE := hide hle
  clear hb hp hle hc hln hL hsz
  dsimp only
  go_wp2_with fail
  have HX : Hid ((([] : List ByteArray) ++ L.take (2 - ([] : List ByteArray).length)).length = 2) := hide (by have := HLN.out; simp; omega)
  have HM : Hid (min L.length (2 - ([] : List ByteArray).length) = 2) := hide (by have := HLN.out; simp; omega)
  have hfill := fillS 2 _ _ [] _ 3 L _ HP.out HC.out
  rw [HM.out, HLN.out] at hfill
  refine hfill.mono ?_
  rintro e w2 ⟨rfl, ht, hp, -⟩
  have HB2 := hide (ht.below HB.out HLE.out (Nat.le_refl _))
  obtain ⟨X, hX⟩ : ∃ X, ([] : List ByteArray) ++ L.take (2 - ([] : List ByteArray).length) = X := ⟨_, rfl⟩
  rw [hX] at hp HX
  have HP2 := hide hp
  clear ht hp HP HB HC hfill hX HM HLN HLE
  dsimp only
  go_wp2_with fail
  have hroom := roomS 2 _ _ _ _ HP2.out (by omega)
  rw [HX.out] at hroom
  refine hroom.mono ?_
  rintro e w3 ⟨rfl, hb3⟩
  have HB3 := hide (below_step HB2.out hb3)
  clear hb3 HP2 HB2 hroom
  dsimp only
  go_wp2_with fail
  go_ret
  exact ⟨rfl, HB3.out⟩
theorem made_zeros (m : Nat) : madeCells #[.int .i64 0] (m * 1) = ((List.replicate m (0 : Int)).map (Value.int .i64)).toArray := by
  refine Array.ext (by simp [madeCells]) (fun i h1 h2 => ?_)
  simp [madeCells, Nat.mod_one]
theorem made (m : Nat) (hm : m ≤ 100000) : ∃ (cs : Array Value) (L : List Int), L.length = m ∧ cs = (L.map (Value.int .i64)).toArray ∧ ∀ W : World, (Instr.makeSlice 22 (.int .i64 m) (.int .i64 m)).run Try.prog W = .ok (.slice (some ⟨W.heap.size, 0, none⟩) m m) (W.alloc (.cells cs 3)) := by
  refine ⟨madeCells #[.int .i64 0] (m * 1), List.replicate m 0, by simp, made_zeros m, fun W => ?_⟩
  obtain ⟨i, hi, he⟩ := Option.map_eq_some_iff.1 infozI
  simp only [Prod.mk.injEq] at he
  have := run_makeSlice (P := Try.prog) (w := W) 22 3 i (.int .i64 0) Try.underlying22 hi he.1 .i64 .i64 m m (by omega) (by omega) (by rw [he.2.1]; omega) (by rw [he.2.2]; omega) (by omega)
  rw [he.2.1] at this
  exact this
def NS : List Int := [-1, 0, 1, 2, 4095, 4096, 4097]
set_option maxHeartbeats 4000000 in
set_option maxRecDepth 100000 in
theorem numbers (w : World) : Calls Try.prog 3 #[] w fun e w' => e = .returned (.bool true) ∧ Below w.heap.size w w' := by
  have hb0 : Below w.heap.size w (w.alloc (.cells #[.int .i64 (-1), .int .i64 0, .int .i64 1, .int .i64 2, .int .i64 4095, .int .i64 4096, .int .i64 4097] 3)) := below_alloc (Below.refl _ _) _
  have hc0 := C_blk (enc := Value.int .i64) (h1 := fun _ => rfl) (heap_alloc_new w (.cells #[.int .i64 (-1), .int .i64 0, .int .i64 1, .int .i64 2, .int .i64 4095, .int .i64 4096, .int .i64 4097] 3)) NS (by simp [NS]) (by simp [NS])
  have hz0 : w.heap.size < (w.alloc (.cells #[.int .i64 (-1), .int .i64 0, .int .i64 1, .int .i64 2, .int .i64 4095, .int .i64 4096, .int .i64 4097] 3)).heap.size := by simp
  have HB0 := hide hb0
  have HC0 := hide hc0
  have HZ0 := hide hz0
  clear hb0 hc0 hz0
  go_enter Try.func3, Try.ntmps3
  go_wp2_with fail
  obtain ⟨w1, hw1⟩ : ∃ w1, w.alloc (.cells #[.int .i64 (-1), .int .i64 0, .int .i64 1, .int .i64 2, .int .i64 4095, .int .i64 4096, .int .i64 4097] 3) = w1 := ⟨_, rfl⟩
  rw [hw1] at HB0 HC0 HZ0 ⊢
  clear hw1
  go_loopw [10] (fun i wr => ∃ k : Nat, k ≤ 7 ∧ i = .int .i64 k ∧ Aside0 (Below w1.heap.size w1 wr)) (fun i _ => 7 - (intOf i).toNat)
  case atStart => exact ⟨0, by omega, rfl, ⟨Below.refl _ _⟩⟩
  case round =>
    obtain ⟨k, hk, rfl, HB⟩ := hrel
    by_cases hlt : k < 7
    · have hi1 : (k : Int) < 7 := by omega
      have hi0 : (0 : Int) ≤ k := by omega
      obtain ⟨ad, cs, hA, hcs, hK, hcell⟩ := Kd.C_get (Kd.C_below HC0.out HB.out) 0 (k : Int) hi0 (by simpa [NS] using hi1)
      cases hA
      have hcs2 : cs = [.int .i64 (NS.getD k 0)] := hK
      subst hcs2
      have h0 := hcell 0 _ rfl
      have ea : (⟨w.heap.size, 0, none⟩ : Addr).add ((k : Int).toNat * (Kd.int .i64).sz + 0) = ⟨w.heap.size, k, none⟩ := by
        show (⟨w.heap.size, 0, none⟩ : Addr).add ((k : Int).toNat * 1 + 0) = _
        rw [show (k : Int).toNat * 1 + 0 = k from by omega]
        unfold Addr.add; split <;> simp_all
      have h0 : wr.cell? ⟨w.heap.size, k, none⟩ = some (.int .i64 (NS.getD k 0)) := by rw [← ea]; exact h0
      clear hcell hK hcs ea
      obtain ⟨x, hx⟩ : ∃ x, NS.getD k 0 = x := ⟨_, rfl⟩
      rw [hx] at h0
      clear hx
      go_wp2_with fail
      by_cases hok : x < 1 ∨ 4096 < x
      · refine (newNoneI x hok wr).mono ?_
        rintro e w2 ⟨rfl, hb2⟩
        have HB2 := hide (below_step HB.out hb2)
        clear hb2 HB h0
        dsimp only
        rcases hok with h | h
        · have d1 : decide (1 ≤ x) = false := decide_eq_false (by omega)
          go_wp2_with fail
          go_roundw
          case rel => exact ⟨k + 1, by omega, by go_num, ⟨HB2.out⟩⟩
          case measure => simp only [intOf]; omega
        · have d1 : decide (1 ≤ x) = true := decide_eq_true (by omega)
          have d2 : decide (x ≤ 4096) = false := decide_eq_false (by omega)
          go_wp2_with fail
          go_roundw
          case rel => exact ⟨k + 1, by omega, by go_num, ⟨HB2.out⟩⟩
          case measure => simp only [intOf]; omega
      · obtain ⟨n, rfl⟩ : ∃ n : Nat, x = n := ⟨x.toNat, by omega⟩
        have hn1 : 1 ≤ n := by omega
        have hn2 : n ≤ 4096 := by omega
        have d1 : decide (1 ≤ (n : Int)) = true := decide_eq_true (by omega)
        have d2 : decide ((n : Int) ≤ 4096) = true := decide_eq_true (by omega)
        refine (newI n hn1 hn2 wr).mono ?_
        rintro e w2 ⟨rfl, hb2, hsz, hp⟩
        have HP := hide hp
        have HB2 := hide (below_step HB.out hb2)
        have HL := hide (show w1.heap.size ≤ wr.heap.size from HB.out.size)
        clear hb2 HB h0 hp hok hsz
        dsimp only
        go_wp2_with fail
        refine (takeNilI n _ _ w2 HP.out).mono ?_
        rintro e w3 ⟨rfl, rfl⟩
        dsimp only
        go_wp2_with fail
        refine (lenI n _ _ [] w3 HP.out).mono ?_
        rintro e w4 ⟨rfl, hb4⟩
        have HP4 := hide (HP.out.below hb4)
        have HB4 := hide (below_step HB2.out hb4)
        clear hb4 HP HB2
        dsimp only
        go_wp2_with fail
        refine (roomI n _ _ [] w4 HP4.out hn2).mono ?_
        rintro e w5 ⟨rfl, hb5⟩
        have HP5 := hide (HP4.out.below hb5)
        have HB5 := hide (below_step HB4.out hb5)
        clear hb5 HP4 HB4
        dsimp only
        simp only [List.length_nil, Nat.sub_zero]
        have hz5 : w1.heap.size ≤ w5.heap.size := HB5.out.size
        obtain ⟨cs, L, hLn, hcs, hmk⟩ := made 5000 (by omega)
        rw [show ((5000 : Nat) : Int) = 5000 from rfl] at hmk
        have HCS := hide hcs
        have HLN := hide hLn
        clear hcs hLn
        go_wp2_with fail
        clear hmk
        have HB6 := hide (below_alloc (Below.refl w5.heap.size w5) (.cells cs 3))
        have HC := hide (C_blk (h1 := fun _ => rfl) (heap_alloc_new w5 (.cells cs 3)) L HCS.out (by rw [HLN.out]; omega))
        have hLn := HLN.out
        have HZ := hide (show w5.heap.size ≤ (w5.alloc (.cells cs 3)).heap.size by simp)
        obtain ⟨w6, hw6⟩ : ∃ w6, w5.alloc (.cells cs 3) = w6 := ⟨_, rfl⟩
        rw [hw6] at HB6 HC HZ ⊢
        clear hw6 HCS
        have HP6 := hide (HP5.out.below HB6.out)
        have HB7 := hide (below_step HB5.out HB6.out)
        have hmin : min L.length (n - ([] : List Int).length) = n := by simp; omega
        have hlt : (([] : List Int) ++ L.take (n - ([] : List Int).length)).length = n := by simp; omega
        obtain ⟨X, hX⟩ : ∃ X, ([] : List Int) ++ L.take (n - ([] : List Int).length) = X := ⟨_, rfl⟩
        have HM := hide hmin
        rw [hX] at hlt
        have HX := hide hX
        have HXL := hide hlt
        clear hX hlt hmin HP5 HB5
        rw [← hLn]
        refine (fillI n _ _ [] _ _ L w6 HP6.out HC.out).mono ?_
        rintro e w7 ⟨rfl, ht, hp, -⟩
        rw [HX.out] at hp
        rw [HM.out]
        have hz6 : w1.heap.size ≤ w6.heap.size := HB7.out.size
        have HB8 := hide (ht.below HB7.out hz6 HL.out)
        have HP8 := hide hp
        clear ht hp HP6 HC HB6 HB7
        dsimp only
        go_wp2_with fail
        have hput := putI n _ _ X 1 w7 HP8.out
        rw [decide_eq_false (by rw [HXL.out]; omega), if_neg (by rw [HXL.out]; omega)] at hput
        refine hput.mono ?_
        rintro e w8 ⟨rfl, ht, hp⟩
        have HB9 := hide (ht.below HB8.out HB8.out.size HL.out)
        have HP9 := hide hp
        clear ht hp hput HP8 HB8
        dsimp only
        go_wp2_with fail
        refine (lenI n _ _ X w8 HP9.out).mono ?_
        rintro e w9 ⟨rfl, hb9⟩
        rw [HXL.out]
        have HP10 := hide (HP9.out.below hb9)
        have HB10 := hide (below_step HB9.out hb9)
        clear hb9 HP9 HB9
        dsimp only
        go_wp2_with fail
        refine (drainI n _ _ X w9 HP10.out hn2).mono ?_
        rintro e w10 ⟨v, rfl, hR, ht, hp⟩
        obtain ⟨A2, c2, rfl, -, -⟩ := Kd.R_reads hR
        rw [HXL.out]
        have HB11 := hide (ht.below HB10.out HB10.out.size HL.out)
        clear ht hp hR HP10 HB10
        dsimp only
        go_wp2_with fail
        go_roundw
        case rel => exact ⟨k + 1, by omega, by go_num, ⟨HB11.out⟩⟩
        case measure => simp only [intOf]; omega
    · have hk7 : k = 7 := by omega
      subst hk7
      go_wp2_with fail
      refine (known _).mono ?_
      rintro e w9 ⟨rfl, hb⟩
      have HB9 := hide (below_step (below_step HB0.out HB.out) hb)
      clear hb HB
      dsimp only
      go_wp2_with fail
      go_ret
      exact ⟨rfl, HB9.out⟩
end Go.Proofs.Ytomfcaddlmkaoaa.Pipe
