/- The walk of the law ContextNumbers: true. -/
import Derived.Test.YtpofjfnlchpmbaaCtxOne
import Derived.Test.YtpofjfnlchpmbaaCtxSame
import Derived.Test.YtpofjfnlchpmbaaCtxLexers
import Derived.Test.YtpofjfnlchpmbaaCtxSmall
import Derived.Test.YtpofjfnlchpmbaaPContextNumbersx2
namespace Go.Proofs.Ytpofjfnlchpmbaa.Ctx
open Go.RowKit Go.Proofs.Ytpofjfnlchpmbaa.PContextTells Go.Proofs.YtpofjfnlchpmbaaW.PrintWords Go.Proofs.YtpofjfnlchpmbaaW.PrintLast

def L17 : List ByteArray := [⟨#[]⟩, ⟨#[105, 110, 105, 116, 105, 97, 108]⟩, ⟨#[98, 101, 102, 111, 114, 101, 104, 116, 109, 108]⟩, ⟨#[98, 101, 102, 111, 114, 101, 104, 101, 97, 100]⟩, ⟨#[105, 110, 104, 101, 97, 100]⟩, ⟨#[97, 102, 116, 101, 114, 104, 101, 97, 100]⟩, ⟨#[105, 110, 98, 111, 100, 121]⟩, ⟨#[105, 110, 116, 101, 120, 116]⟩, ⟨#[105, 110, 116, 97, 98, 108, 101]⟩, ⟨#[105, 110, 116, 97, 98, 108, 101, 116, 101, 120, 116]⟩, ⟨#[105, 110, 116, 97, 98, 108, 101, 98, 111, 100, 121]⟩, ⟨#[105, 110, 114, 111, 119]⟩, ⟨#[105, 110, 99, 101, 108, 108]⟩, ⟨#[105, 110, 116, 101, 109, 112, 108, 97, 116, 101]⟩, ⟨#[97, 102, 116, 101, 114, 98, 111, 100, 121]⟩, ⟨#[97, 102, 116, 101, 114, 97, 102, 116, 101, 114, 98, 111, 100, 121]⟩, ⟨#[]⟩]
theorem name_eq : ∀ i : Nat, i < 17 → PContextNumbers.context_Name.f (i : Int) = some (L17.getD i ⟨#[]⟩) := by decide +kernel
theorem texts_at {w : World} {g : Nat} {fr : Nat × Nat} {t : TypeId} {l : List ByteArray} (h : w.heap[g]? = some (.cells (l.map Value.string).toArray t fr)) (i : Nat) (hi : i < l.length) : w.cell? ⟨g, i, none⟩ = some (.string (l.getD i ⟨#[]⟩)) := by
  refine cell_of_row w g i _ _ _ h |>.trans ?_
  simp [List.getD, hi]
theorem kEl_M (W : World) (base : Nat) (ok : Nat → Prop) (n : Int) (b : Bool) : kEl.M W base ok (n, b) [.int .i64 n, .bool b] := ⟨[.int .i64 n], [.bool b], rfl, rfl, rfl⟩
theorem lit1 (W : World) (base : Nat) (hb : base ≤ W.heap.size) (n : Int) (b : Bool) : kEl.R 40 (W.alloc (.cells #[.int .i64 n, .bool b] 40)) base (fun _ => True) (.slice (some ⟨W.heap.size, 0, none⟩) 1 1) [(n, b)] :=
  ⟨fun _ _ => trivial, [.int .i64 n, .bool b], by have := World.ownsRow_lit (base := base) (e := 40) (size := 2) W #[.int .i64 n, .bool b] 1 hb (by decide) rfl; exact this, Reps.c2 (kEl_M _ _ _ n b) (Reps.none _ _)⟩
theorem wpList_of_step {P : Program} {ops : Array Oper} {Q : Exit → Act → World → Prop} {a : Act} {W : World} {rest : List Oper} {o : Oper} (hw : Region.wanted o (yielded ops a.tmps) = true)
    (h : if Region.wanted o (yielded ops a.tmps) = true then Oper.wp P o a W (wpList P ops Q rest) Q else wpList P ops Q rest (a.put o.dst undef) W) : wpList P ops Q (o :: rest) a W := by
  rw [if_pos hw] at h
  show if _ then _ else _
  rw [if_pos hw]
  exact .inl h
theorem info40 : (Try.prog.info? 40).map (fun i => (i.zero, i.size, i.bytes)) = some (some (.agg #[.int .i64 0, .bool false]), 2, 16) := by kernel_rfl
set_option maxHeartbeats 40000000 in
set_option maxRecDepth 100000 in
theorem numbers (w : World) : Calls Try.prog 5 #[] w fun e w' => e = .returned (.bool true) ∧ Below w.heap.size w w' := by
  have hb0 : Below w.heap.size w (w.alloc (.cells #[.string ⟨#[]⟩, .string ⟨#[105, 110, 105, 116, 105, 97, 108]⟩, .string ⟨#[98, 101, 102, 111, 114, 101, 104, 116, 109, 108]⟩, .string ⟨#[98, 101, 102, 111, 114, 101, 104, 101, 97, 100]⟩, .string ⟨#[105, 110, 104, 101, 97, 100]⟩, .string ⟨#[97, 102, 116, 101, 114, 104, 101, 97, 100]⟩, .string ⟨#[105, 110, 98, 111, 100, 121]⟩, .string ⟨#[105, 110, 116, 101, 120, 116]⟩, .string ⟨#[105, 110, 116, 97, 98, 108, 101]⟩, .string ⟨#[105, 110, 116, 97, 98, 108, 101, 116, 101, 120, 116]⟩, .string ⟨#[105, 110, 116, 97, 98, 108, 101, 98, 111, 100, 121]⟩, .string ⟨#[105, 110, 114, 111, 119]⟩, .string ⟨#[105, 110, 99, 101, 108, 108]⟩, .string ⟨#[105, 110, 116, 101, 109, 112, 108, 97, 116, 101]⟩, .string ⟨#[97, 102, 116, 101, 114, 98, 111, 100, 121]⟩, .string ⟨#[97, 102, 116, 101, 114, 97, 102, 116, 101, 114, 98, 111, 100, 121]⟩, .string ⟨#[]⟩] 9)) := below_alloc (Below.refl _ _) _
  have hT : ∀ i : Nat, i < 17 → (w.alloc (.cells #[.string ⟨#[]⟩, .string ⟨#[105, 110, 105, 116, 105, 97, 108]⟩, .string ⟨#[98, 101, 102, 111, 114, 101, 104, 116, 109, 108]⟩, .string ⟨#[98, 101, 102, 111, 114, 101, 104, 101, 97, 100]⟩, .string ⟨#[105, 110, 104, 101, 97, 100]⟩, .string ⟨#[97, 102, 116, 101, 114, 104, 101, 97, 100]⟩, .string ⟨#[105, 110, 98, 111, 100, 121]⟩, .string ⟨#[105, 110, 116, 101, 120, 116]⟩, .string ⟨#[105, 110, 116, 97, 98, 108, 101]⟩, .string ⟨#[105, 110, 116, 97, 98, 108, 101, 116, 101, 120, 116]⟩, .string ⟨#[105, 110, 116, 97, 98, 108, 101, 98, 111, 100, 121]⟩, .string ⟨#[105, 110, 114, 111, 119]⟩, .string ⟨#[105, 110, 99, 101, 108, 108]⟩, .string ⟨#[105, 110, 116, 101, 109, 112, 108, 97, 116, 101]⟩, .string ⟨#[97, 102, 116, 101, 114, 98, 111, 100, 121]⟩, .string ⟨#[97, 102, 116, 101, 114, 97, 102, 116, 101, 114, 98, 111, 100, 121]⟩, .string ⟨#[]⟩] 9)).cell? ⟨w.heap.size, i, none⟩ = some (.string (L17.getD i ⟨#[]⟩)) := fun i hi => texts_at (l := L17) (heap_alloc_new w (.cells #[.string ⟨#[]⟩, .string ⟨#[105, 110, 105, 116, 105, 97, 108]⟩, .string ⟨#[98, 101, 102, 111, 114, 101, 104, 116, 109, 108]⟩, .string ⟨#[98, 101, 102, 111, 114, 101, 104, 101, 97, 100]⟩, .string ⟨#[105, 110, 104, 101, 97, 100]⟩, .string ⟨#[97, 102, 116, 101, 114, 104, 101, 97, 100]⟩, .string ⟨#[105, 110, 98, 111, 100, 121]⟩, .string ⟨#[105, 110, 116, 101, 120, 116]⟩, .string ⟨#[105, 110, 116, 97, 98, 108, 101]⟩, .string ⟨#[105, 110, 116, 97, 98, 108, 101, 116, 101, 120, 116]⟩, .string ⟨#[105, 110, 116, 97, 98, 108, 101, 98, 111, 100, 121]⟩, .string ⟨#[105, 110, 114, 111, 119]⟩, .string ⟨#[105, 110, 99, 101, 108, 108]⟩, .string ⟨#[105, 110, 116, 101, 109, 112, 108, 97, 116, 101]⟩, .string ⟨#[97, 102, 116, 101, 114, 98, 111, 100, 121]⟩, .string ⟨#[97, 102, 116, 101, 114, 97, 102, 116, 101, 114, 98, 111, 100, 121]⟩, .string ⟨#[]⟩] 9)) i hi
  have HB0 := hide hb0
  have HT := hide hT
  clear hb0 hT
  go_enter Try.func5, Try.ntmps5
  go_wp2_with fail
  obtain ⟨w1, hw1⟩ : ∃ w1, w.alloc (.cells #[.string ⟨#[]⟩, .string ⟨#[105, 110, 105, 116, 105, 97, 108]⟩, .string ⟨#[98, 101, 102, 111, 114, 101, 104, 116, 109, 108]⟩, .string ⟨#[98, 101, 102, 111, 114, 101, 104, 101, 97, 100]⟩, .string ⟨#[105, 110, 104, 101, 97, 100]⟩, .string ⟨#[97, 102, 116, 101, 114, 104, 101, 97, 100]⟩, .string ⟨#[105, 110, 98, 111, 100, 121]⟩, .string ⟨#[105, 110, 116, 101, 120, 116]⟩, .string ⟨#[105, 110, 116, 97, 98, 108, 101]⟩, .string ⟨#[105, 110, 116, 97, 98, 108, 101, 116, 101, 120, 116]⟩, .string ⟨#[105, 110, 116, 97, 98, 108, 101, 98, 111, 100, 121]⟩, .string ⟨#[105, 110, 114, 111, 119]⟩, .string ⟨#[105, 110, 99, 101, 108, 108]⟩, .string ⟨#[105, 110, 116, 101, 109, 112, 108, 97, 116, 101]⟩, .string ⟨#[97, 102, 116, 101, 114, 98, 111, 100, 121]⟩, .string ⟨#[97, 102, 116, 101, 114, 97, 102, 116, 101, 114, 98, 111, 100, 121]⟩, .string ⟨#[]⟩] 9) = w1 := ⟨_, rfl⟩
  rw [hw1] at HB0 HT ⊢
  clear hw1
  go_loopw [2] (fun i wr => ∃ (k : Nat), k ≤ 17 ∧ i = .int .i64 k ∧ Aside0 (Below w1.heap.size w1 wr)) (fun i _ => 17 - (intOf i).toNat)
  case atStart => exact ⟨0, by omega, rfl, ⟨Below.refl _ _⟩⟩
  case round =>
    obtain ⟨k, hk, rfl, HB⟩ := hrel
    by_cases hlt : k < 17
    · have k1 : (k : Int) < 17 := by omega
      have k2 : (0 : Int) ≤ (k : Int) := by omega
      obtain ⟨s, hs⟩ : ∃ s, L17.getD k ⟨#[]⟩ = s := ⟨_, rfl⟩
      have hc : wr.cell? ⟨w.heap.size, k, none⟩ = some (.string s) := by rw [← hs]; exact (HB.out.cell (World.block_lt_of_cell? _ _ (HT.out k hlt))).trans (HT.out k hlt)
      have hf := name_eq k hlt
      rw [hs] at hf
      have HF := hide hf
      have hI : (fun W => W.cell? ⟨w.heap.size, k, none⟩ = some (.string s) ∧ Below w1.heap.size w1 W) wr.drew := ⟨hc, HB.out.drew⟩
      clear hs hf
      go_wp2_with fail
      go_region_held3 (fun W => W.cell? ⟨w.heap.size, k, none⟩ = some (.string s) ∧ Below w1.heap.size w1 W)
        (first | exact hI | ((try go_split_ands); exact ⟨cellW (by assumption) bN, below_step (by assumption) bN⟩) | go_keep)
        (first | (go_at_call 14; (try go_split_ands); refine (PContextNumbers.context_Name.calls (k : Int) s _ HF.out).mono ?_; rintro e wn ⟨rfl, bN⟩))
      (try go_split_ands)
      go_wp2_with fail
      go_roundw
      case rel => exact ⟨k + 1, by omega, by go_num, ⟨by assumption⟩⟩
      case measure => simp only [intOf]; omega
    · have k17 : ¬ (k : Int) < 17 := by omega
      go_wp2_with fail
      clear HT
      go_loopw [3, 4, 5, 6] (fun n _ _ _ wr => ∃ (k : Nat), k ≤ 48 ∧ n = .int .i64 k ∧ Aside0 (Below w1.heap.size w1 wr)) (fun n _ _ _ _ => 48 - (intOf n).toNat)
      case atStart => exact ⟨0, by omega, rfl, HB⟩
      case round =>
        clear HB
        obtain ⟨n, hn, rfl, HB⟩ := hrel
        by_cases hlt : n < 48
        · have k1 : (n : Int) < 48 := by omega
          go_wp2_with fail
          go_loopw [4, 5, 6] (fun h _ _ wr => ∃ (k : Nat), k ≤ 8 ∧ h = .int .i64 k ∧ Aside0 (Below w1.heap.size w1 wr)) (fun h _ _ _ => 8 - (intOf h).toNat)
          case atStart => exact ⟨0, by omega, rfl, HB⟩
          case round =>
            clear HB
            obtain ⟨h, hh, rfl, HB⟩ := hrel
            by_cases hlt : h < 8
            · have k2 : (h : Int) < 8 := by omega
              have HNN := hide (names n)
              go_wp2_with fail
              refine (HNN.out _).mono ?_
              rintro e w2 ⟨rfl, hb⟩
              have HB2 := hide (below_step HB.out hb)
              clear hb HB HNN
              obtain ⟨nn, hnn⟩ : ∃ nn, nm (n : Int) = nn := ⟨_, rfl⟩
              rw [hnn]
              clear hnn
              dsimp only
              go_wp2_with fail
              obtain ⟨sv, hsv⟩ : ∃ sv, decide ((4 : Int) ≤ (h : Int)) = sv := ⟨_, rfl⟩
              obtain ⟨ns, hns⟩ : ∃ ns : Int, 1 + (h : Int) % 2 = ns := ⟨_, rfl⟩
              rw [hsv, hns]
              clear hsv hns
              have e2 : (w2.alloc (.cells #[.int .i64 ns, .string nn, .slice none 0 0] 24)).heap.size = w2.heap.size + 1 := by simp
              have gcc := heap_alloc_new w2 (.cells #[.int .i64 ns, .string nn, .slice none 0 0] 24)
              have hbc := below_step HB2.out (below_alloc (Below.refl _ w2) (.cells #[.int .i64 ns, .string nn, .slice none 0 0] 24))
              obtain ⟨wc, hwc⟩ : ∃ wc, w2.alloc (.cells #[.int .i64 ns, .string nn, .slice none 0 0] 24) = wc := ⟨_, rfl⟩
              rw [hwc] at e2 gcc hbc ⊢
              clear hwc
              have gL := heap_alloc_new wc (.cells #[.int .i64 n, .bool sv] 40)
              rw [e2] at gL
              have gC : (wc.alloc (.cells #[.int .i64 n, .bool sv] 40)).heap[w2.heap.size]? = some (.cells #[.int .i64 ns, .string nn, .slice none 0 0] 24 (0, 0)) := (below_alloc (Below.refl _ _) _).block _ (by rw [e2]; omega) |>.trans gcc
              have hb3 := below_step hbc (below_alloc (Below.refl _ wc) (.cells #[.int .i64 n, .bool sv] 40))
              have hw23 : Below wc.heap.size wc (wc.alloc (.cells #[.int .i64 n, .bool sv] 40)) := below_alloc (Below.refl _ wc) _
              have hR3 := lit1 wc wc.heap.size (Nat.le_refl _) (n : Int) sv
              rw [show (⟨wc.heap.size, 0, none⟩ : Addr) = ⟨w2.heap.size + 1, 0, none⟩ from by rw [e2]] at hR3
              have hLen : (wc.alloc (.cells #[.int .i64 n, .bool sv] 40)).heap.size = w2.heap.size + 2 := by simp [e2]
              obtain ⟨w3, hw3⟩ : ∃ w3, wc.alloc (.cells #[.int .i64 n, .bool sv] 40) = w3 := ⟨_, rfl⟩
              rw [hw3] at gL gC hb3 hLen hw23 hR3 ⊢
              clear hw3
              have rL : kEl.C w3 (some ⟨w2.heap.size + 1, 0, none⟩) 1 [((n : Int), sv)] := els_blk gL [((n : Int), sv)] (by
                intro j p hj
                match j, hj with
                | 0, hj => cases hj; exact ⟨rfl, rfl⟩) (by simp)
              have HL3 := hide rL
              have HR3 := hide hR3
              have HW3 := hide hw23
              have GCC := hide gcc
              have HBC := hide hbc
              have E2 := hide e2
              have GC3 := hide gC
              have HB3 := hide hb3
              clear rL gL gC hb3 HB2 hw23 hR3 hLen gcc hbc e2
              refine (one ns nn none 0 [] w3 ⟨Kd.C_nil _ _, Nat.le_refl _⟩ (by simp)).mono ?_
              rintro e w4 ⟨rfl, hb⟩
              have HB4 := hide (below_step HB3.out hb)
              have HL4 := hide (Kd.C_below HL3.out hb)
              have HR4 := hide (Kd.R_below HR3.out hb)
              have HW4 := hide (below_step HW3.out hb)
              have GC4 := hide ((hb.block _ (blk_lt GC3.out)).trans GC3.out)
              clear hb HB3 HL3 GC3 HR3 HW3
              dsimp only
              go_wp2_with fail
              refine (same (some ⟨w2.heap.size + 1, 0, none⟩) 1 [((n : Int), sv)] (.pointer none) none 7 _ w4 HL4.out rfl).mono ?_
              rintro e w5 ⟨rfl, hb⟩
              have HB5 := hide (below_step HB4.out hb)
              have HL5 := hide (Kd.C_below HL4.out hb)
              have HR5 := hide (Kd.R_below HR4.out hb)
              have HW5 := hide (below_step HW4.out hb)
              have GC5 := hide ((hb.block _ (blk_lt GC4.out)).trans GC4.out)
              clear hb HB4 HL4 GC4 HR4 HW4
              dsimp only
              go_wp2_with fail
              refine (same (some ⟨w2.heap.size + 1, 0, none⟩) 1 [((n : Int), sv)] (.pointer (some ⟨w2.heap.size, 0, none⟩)) (some (ns, nn)) 8 _ w5 HL5.out ⟨w2.heap.size, rfl, cell_of_row _ _ 0 _ _ _ GC5.out, cell_of_row _ _ 1 _ _ _ GC5.out⟩).mono ?_
              rintro e w6 ⟨rfl, hb⟩
              have HB6 := hide (below_step HB5.out hb)
              have HL6 := hide (Kd.C_below HL5.out hb)
              have HR6 := hide (Kd.R_below HR5.out hb)
              have HW6 := hide (below_step HW5.out hb)
              have GC6 := hide ((hb.block _ (blk_lt GC5.out)).trans GC5.out)
              clear hb HB5 HL5 GC5 HR5 HW5
              dsimp only
              go_wp2_with (at_builtin; refine wpList_of_step rfl ?_; refine Kd.R_append_rows_step kEl (Rr := kEl.K (w6.alloc (.cells #[.int .i64 28, .bool false] 40))) (w0 := w6) w6.heap.size rfl (.tmp 63) (.tmp 64) 30 40 (.agg #[.int .i64 0, .bool false]) 16 rfl Try.underlying30 info40 rfl (by decide) (by decide) (.slice (some ⟨w6.heap.size, 0, none⟩) 1 1) [((28 : Int), false)] [((n : Int), sv)] (some ⟨w2.heap.size + 1, 0, none⟩) 1 1 (fun _ => True) (fun _ => False) rfl rfl (lit1 w6 w6.heap.size (Nat.le_refl _) 28 false) (Kd.C_below HL6.out (below_alloc (Below.refl _ w6) _)) (fun _ _ h => h) (fun k hk => hk.elim) (fun _ _ => trivial) (below_alloc (Below.refl _ w6) _) (below_alloc (Below.refl _ w6) _).size (by simp) ?_; intro v1 w7 ho hb hg hown; obtain ⟨A7, c7, rfl, _, hC7⟩ := Kd.R_reads ho; have HC7 := hide hC7; have HB67 := hide hb; clear ho hb hg hown hC7)
              refine (same A7 c7 [((28 : Int), false), ((n : Int), sv)] (.pointer (some ⟨w2.heap.size, 0, none⟩)) (some (ns, nn)) 9 _ w7 HC7.out ⟨w2.heap.size, rfl, ?c0, ?c1⟩).mono ?_
              case c0 => exact cell_of_row _ _ 0 _ _ _ ((HB67.out.block _ (blk_lt GC6.out)).trans GC6.out)
              case c1 => exact cell_of_row _ _ 1 _ _ _ ((HB67.out.block _ (blk_lt GC6.out)).trans GC6.out)
              rintro e w8 ⟨rfl, hb⟩
              have hb68 := below_step HB67.out hb
              have HB8 := hide (below_step HB6.out hb68)
              have HR8 := hide (Kd.R_below HR6.out hb68)
              have HW8 := hide (below_step HW6.out hb68)
              have GC8 := hide ((hb68.block _ (blk_lt GC6.out)).trans GC6.out)
              clear hb hb68 HB67 HC7 HB6 HL6 GC6 HR6 HW6
              have HB88 := hide (below_step HW8.out (below_alloc (Below.refl _ w8) (.cells #[.int .i64 0, .bool false] 40)))
              have HRL := hide (Kd.R_below HR8.out (below_alloc (Below.refl _ w8) (.cells #[.int .i64 0, .bool false] 40)))
              have HN8 := hide (show kEl.C (w8.alloc (.cells #[.int .i64 0, .bool false] 40)) (some ⟨w8.heap.size, 0, none⟩) 1 [((0 : Int), false)] from els_blk (heap_alloc_new w8 _) [((0 : Int), false)] (by
                intro j p hj
                match j, hj with
                | 0, hj => cases hj; exact ⟨rfl, rfl⟩) (by simp))
              dsimp only
              go_wp2_with (at_builtin; refine wpList_of_step rfl ?_; refine Kd.R_append_rows_step kEl (Rr := kEl.K (w8.alloc (.cells #[.int .i64 0, .bool false] 40))) (w0 := wc) wc.heap.size rfl (.tmp 73) (.tmp 75) 30 40 (.agg #[.int .i64 0, .bool false]) 16 rfl Try.underlying30 info40 rfl (by decide) (by decide) (.slice (some ⟨w2.heap.size + 1, 0, none⟩) 1 1) [((n : Int), sv)] [((0 : Int), false)] (some ⟨w8.heap.size, 0, none⟩) 1 1 (fun _ => True) (fun _ => False) rfl rfl HRL.out HN8.out (fun _ _ h => h) (fun k hk => hk.elim) (fun _ _ => trivial) HB88.out HB88.out.size (by simp) ?_; intro v1 w9 ho hb hg hown; obtain ⟨A9, c9, rfl, _, hC9⟩ := Kd.R_reads ho; have HC9 := hide hC9; have HB89 := hide hb; clear ho hb hg hown hC9)
              refine (same A9 c9 [((n : Int), sv), ((0 : Int), false)] (.pointer (some ⟨w2.heap.size, 0, none⟩)) (some (ns, nn)) 9 true w9 HC9.out ⟨w2.heap.size, rfl, ?d0, ?d1⟩).mono ?_
              case d0 => exact cell_of_row _ _ 0 _ _ _ ((HB89.out.block _ (blk_lt GCC.out)).trans GCC.out)
              case d1 => exact cell_of_row _ _ 1 _ _ _ ((HB89.out.block _ (blk_lt GCC.out)).trans GCC.out)
              rintro e w10 ⟨rfl, hb⟩
              have HB10 := hide (below_step HBC.out (below_step HB89.out hb))
              clear hb HB89 HC9 HB8 GC8 HB88 HRL HN8 HR8 HW8
              dsimp only
              go_wp2_with fail
              go_roundw
              case rel => exact ⟨h + 1, by omega, by go_num, ⟨HB10.out⟩⟩
              case measure => simp only [intOf]; omega
            · have h8 : h = 8 := by omega
              subst h8
              go_wp2_with fail
              go_roundw
              case rel => exact ⟨n + 1, by omega, by go_num, HB⟩
              case measure => simp only [intOf]; omega
        · have h48 : n = 48 := by omega
          subst h48
          go_wp2_with fail
          refine (adjustNil wr).mono ?_
          rintro e w2 ⟨rfl, hb⟩
          have HB2 := hide (below_step HB.out hb)
          clear hb HB
          dsimp only
          go_wp2_with fail
          refine (one 0 ⟨#[]⟩ none 0 [] w2 ⟨Kd.C_nil _ _, Nat.le_refl _⟩ (by simp)).mono ?_
          rintro e w3 ⟨rfl, hb⟩
          have HB3 := hide (below_step HB2.out hb)
          clear hb HB2
          dsimp only
          go_wp2_with fail
          refine (one 3 ⟨#[120]⟩ none 0 [] w3 ⟨Kd.C_nil _ _, Nat.le_refl _⟩ (by simp)).mono ?_
          rintro e w4 ⟨rfl, hb⟩
          have HB4 := hide (below_step HB3.out hb)
          clear hb HB3
          dsimp only
          have hA : Rds (w4.alloc (.cells #[.string ⟨#[97]⟩, .string ⟨#[]⟩, .string ⟨#[97]⟩, .string ⟨#[]⟩] 44)) (some ⟨w4.heap.size, 0, none⟩) 2 [⟨⟨#[97]⟩, ⟨#[]⟩⟩, ⟨⟨#[97]⟩, ⟨#[]⟩⟩] := ⟨rows_blk (heap_alloc_new w4 _) _ (by decide) (by
            intro j p hj
            match j, hj with
            | 0, hj => cases hj; exact ⟨rfl, rfl⟩
            | 1, hj => cases hj; exact ⟨rfl, rfl⟩), Nat.le_refl _⟩
          have HA := hide hA
          have HB5 := hide (below_step HB4.out (below_alloc (Below.refl _ w4) (.cells #[.string ⟨#[97]⟩, .string ⟨#[]⟩, .string ⟨#[97]⟩, .string ⟨#[]⟩] 44)))
          clear hA HB4
          go_wp2_with fail
          obtain ⟨w5, hw5⟩ : ∃ w5, w4.alloc (.cells #[.string ⟨#[97]⟩, .string ⟨#[]⟩, .string ⟨#[97]⟩, .string ⟨#[]⟩] 44) = w5 := ⟨_, rfl⟩
          rw [hw5] at HA HB5 ⊢
          clear hw5
          refine (one 1 ⟨#[120]⟩ (some ⟨w4.heap.size, 0, none⟩) 2 [⟨⟨#[97]⟩, ⟨#[]⟩⟩, ⟨⟨#[97]⟩, ⟨#[]⟩⟩] w5 HA.out (by simp)).mono ?_
          rintro e w6 ⟨rfl, hb⟩
          have HB6 := hide (below_step HB5.out hb)
          clear hb HB5 HA
          dsimp only
          go_wp2_with fail
          refine (same none 0 [] (.pointer none) none 3 true w6 (Kd.C_nil _ _) rfl).mono ?_
          rintro e w7 ⟨rfl, hb⟩
          have HB7 := hide (below_step HB6.out hb)
          clear hb HB6
          dsimp only
          go_wp2_with fail
          refine (known w7).mono ?_
          rintro e w8 ⟨rfl, hb⟩
          have HB8 := hide (below_step HB7.out hb)
          clear hb HB7
          dsimp only
          go_wp2_with fail
          go_ret
          exact ⟨rfl, HB0.out.trans (Below.mono HB8.out HB0.out.size)⟩
end Go.Proofs.Ytpofjfnlchpmbaa.Ctx
