/- The walk of OpBack. -/
import Derived.Test.YtbljbgjecnmeeaaDoorOpDec
import Derived.Test.YtbljbgjecnmeeaaDoorOpTellsP
import Derived.Deep.RegionHeld3
import Derived.Laws.BitsAllLaws
namespace Go.Proofs.YtbljbgjecnmeeaaDoor.OpP
open Go.RowKit Go.Proofs.YtbljbgjecnmeeaaDoor.POpTells Go.Proofs.YtbljbgjecnmeeaaDoorW.PrintWords Go.Proofs.YtbljbgjecnmeeaaDoorW.PrintLast
set_option linter.unusedVariables false
set_option linter.unusedSimpArgs false
namespace Back
/-- What a tame 'made' makes of a Raw. -/
def mk (x : S26) : S24 := madeL x.f0 true x.f2
theorem mk_tame (x : S26) : Tame (mk x) := tame_made _ _
theorem mk_small (x : S26) : Small (mk x) := ⟨tame_i64 (mk_tame x), (mk_tame x).s6, (mk_tame x).s7, (mk_tame x).s8⟩
theorem mk_ok (x : S26) : okB (mk x) = true := by
  unfold okB
  rw [(mk_tame x).right, small_fits _ (mk_small x)]
  rfl
def mkL (l : List S26) (k : Nat) : List S24 := (l.take k).map mk
theorem mkL_all (l : List S26) (k : Nat) : (mkL l k).all okB = true := by
  unfold mkL
  rw [List.all_eq_true]
  intro y hy
  obtain ⟨x, -, rfl⟩ := List.mem_map.1 hy
  exact mk_ok x
theorem encL_len1 : ∀ l : List S24, l.length ≤ (encL l).length
  | [] => Nat.zero_le _
  | o :: l => by
    have h := encL_len1 l
    have hp := encO_pos o
    have e : encL (o :: l) = encO o ++ encL l := by unfold encL; rw [List.flatMap_cons]
    rw [e, List.length_append, List.length_cons]
    omega
theorem mkL_len (l : List S26) (k : Nat) (hk : k ≤ 20) : (encL (mkL l k)).length ≤ 20000 := by
  have h : ∀ m : List S26, (encL (m.map mk)).length ≤ 1000 * m.length := by
    intro m
    induction m with
    | nil => simp [encL]
    | cons x m ih =>
      have h2 := encO_len (mk x) (mk_small x)
      unfold encL at ih ⊢
      rw [List.map_cons, List.flatMap_cons, List.length_append, List.length_cons]
      omega
  have h1 := h (l.take k)
  have h2 : (l.take k).length ≤ 20 := by rw [List.length_take]; omega
  unfold mkL
  omega
theorem encO_byt (o : S24) : Byt (encO o) := by
  have ht : ∀ s, Byt (txt s) := fun s x hx => by
    unfold txt at hx
    rcases List.mem_append.1 hx with h | h
    · exact be_byt _ _ x h
    · exact bytesOf_byt s x h
  intro x hx
  unfold encO encH at hx
  simp only [List.mem_append] at hx
  rcases hx with ((((((((h | h) | h) | h) | h) | h) | h) | h) | h) | h
  · exact be_byt _ _ x h
  · exact be_byt _ _ x h
  · exact be_byt _ _ x h
  · exact be_byt _ _ x h
  · exact be_byt _ _ x h
  · exact be_byt _ _ x h
  · exact ht _ x h
  · exact be_byt _ _ x h
  · obtain ⟨y, -, hy⟩ := List.mem_flatMap.1 h
    unfold encA at hy
    rcases List.mem_append.1 hy with h | h
    · exact ht _ x h
    · exact ht _ x h
  · exact ht _ x h
theorem encL_byt (l : List S24) : Byt (encL l) := by
  intro x hx
  unfold encL at hx
  obtain ⟨o, -, ho⟩ := List.mem_flatMap.1 hx
  exact encO_byt o x ho
theorem dec_enc (l : List S26) (k : Nat) : decL ((encL (mkL l k)).length + 1) (encL (mkL l k), false) [] = some (mkL l k) := by
  have h := decL_enc (mkL l k) [] ((encL (mkL l k)).length + 1) (mkL_all l k) (by have := encL_len1 (mkL l k); omega)
  rw [List.nil_append] at h
  exact h
theorem mk24 (o : S24) {W : World} {base : Nat} {sv : Value} {L : List S24} {ok0 : Nat → Prop} {v7 : Value} {w0 : World} (hs : k24.R 24 w0 base ok0 sv L) (hb : base ≤ w0.heap.size) (h7 : k32.R 32 W w0.heap.size (fun _ => True) v7 o.f7) :
    k24.M W base (fun k => True ∧ some k ≠ sv.ownBlock) o [.int .i64 o.f0, .int .i64 o.f1, .int .i64 o.f2, .int .i64 o.f3, .int .i64 o.f4, .int .i64 o.f5, .string o.f6, v7, .string o.f8] := by
  obtain ⟨inner, ho⟩ := Kd.R_own hs
  exact k24_mkM W base _ o (Kd.R_lower (Kd.R_new h7 ho) hb)
theorem info24 : (Tryd.prog.info? 24).map (fun i => (i.zero, i.size, i.bytes)) = some (some (.agg #[.int .i64 0, .int .i64 0, .int .i64 0, .int .i64 0, .int .i64 0, .int .i64 0, .string ⟨#[]⟩, .slice none 0 0, .string ⟨#[]⟩]), 9, 104) := by kernel_rfl
theorem conv {W : World} {A : Option Addr} {n c : Nat} {xs : List Int} (h : kB.C W A n xs) : (convert 36 9 (.slice A n c)).run Tryd.prog W = .ok (.string (strOfNums xs)) W := Kd.C_string Tryd.underlying36 Tryd.underlying5 Tryd.underlying9 h
/-- All is made. -/
def MadeR (w : World) (l : List S26) (sv : Value) (wx : World) : Prop := ∃ k, k ≤ 20 ∧ k24.R 24 wx w.heap.size (fun _ => True) sv (mkL l k) ∧ Below w.heap.size w wx
theorem xor_byt (a b : Int) (ha : 0 ≤ a ∧ a < 256) (hb : 0 ≤ b ∧ b < 256) : 0 ≤ bits BinOp.xor IntKind.u8 a b ∧ bits BinOp.xor IntKind.u8 a b < 256 := by
  rw [u8_xor a b ha.1 ha.2 hb.1 hb.2]
  have := Nat.xor_lt_two_pow (n := 8) (x := a.toNat) (y := b.toNat) (by omega) (by omega)
  omega
/-- The bytes that are read in the end. -/
def YOk (w wx : World) (v : Value) : Prop := ∃ (Ay : Option Addr) (ys : List Int) (cy : Nat), v = .slice Ay ys.length cy ∧ kB.C wx Ay ys.length ys ∧ ys.length ≤ cy ∧ Byt ys ∧ ys.length ≤ 20000
theorem YOk.below {w wx w' : World} {v : Value} (h : YOk w wx v) (hb : Below wx.heap.size wx w') : YOk w w' v := by
  obtain ⟨Ay, ys, cy, h1, h2, h3, h4, h5⟩ := h
  exact ⟨Ay, ys, cy, h1, Kd.C_below h2 hb, h3, h4, h5⟩
set_option maxHeartbeats 20000000 in
set_option maxRecDepth 100000 in
theorem opBack (l : List S26) (A : Option Addr) (c : Nat) (at_ turn : Int) (ct : Bool) (X : Option Addr) (cx : Nat) (xs : List Int) (w : World) (hC : k26.C w A l.length l ∧ l.length ≤ c) (hX : kB.C w X xs.length xs ∧ xs.length ≤ cx) (hbx : Byt xs) (htu : 0 ≤ turn ∧ turn < 256) (ht : TabOk w) :
    Calls Tryd.prog 6 #[.slice A l.length c, .int .i64 at_, .int .u8 turn, .bool ct, .slice X xs.length cx] w fun e w' => e = .returned (.bool true) ∧ Below w.heap.size w w' := by
  have HC := hide hC.1
  have hmx := hC.1.2.1
  have HX := hide hX
  have HBX := hide hbx
  have HTU := hide htu
  have HT := hide ht
  have hmx2 := hX.1.2.1
  clear hC hX hbx htu ht
  obtain ⟨n, hn⟩ : ∃ n, l.length = n := ⟨_, rfl⟩
  have HN := hide hn
  rw [hn] at hmx ⊢
  obtain ⟨xn, hxn⟩ : ∃ n, xs.length = n := ⟨_, rfl⟩
  have HXN := hide hxn
  rw [hxn] at hmx2 ⊢
  clear hn hxn
  go_enter Tryd.func6, Tryd.ntmps6
  go_upto_block 0 with fail
  go_cut [11, 12, 13] from 27 to 46 (fun sv _ _ wx => MadeR w l sv wx)
  case first =>
    go_wp2_with fail
    go_loopw [11, 12, 13] (fun s i q wr => ∃ (sv qv : Value) (k : Nat), sv = s ∧ qv = q ∧ k ≤ n ∧ k ≤ 20 ∧ i = .int .i64 (k : Int) ∧ Aside0 (k24.R 24 wr w.heap.size (fun _ => True) sv (mkL l k)) ∧ Aside0 (Below w.heap.size w wr)) (fun _ i _ _ => 20 - (intOf i).toNat)
    case atStart => exact ⟨_, _, 0, rfl, rfl, Nat.zero_le _, by omega, rfl, ⟨Kd.R_nil ..⟩, ⟨Below.refl _ _⟩⟩
    case round =>
      obtain ⟨sv, qv, k, rfl, rfl, hk, hk20, rfl, hs, hB⟩ := hrel
      by_cases hlt : k < n ∧ k < 20
      · have hkl : k < l.length := by rw [HN.out]; exact hlt.1
        obtain ⟨ad, A0, c0, hA, e0, e1, e2, e3, e4, e5, e6, e7, e8, e9, e10, l0, g0⟩ := at_T26 HC.out (k : Int) (by omega) (by omega)
        rw [Int.toNat_natCast] at e0 e1 e2 e3 e4 e5 e6 e7 e8 e9 e10
        have hx : rd_T26 l (k : Int) = l[k] := by
          unfold rd_T26
          rw [Int.toNat_natCast, List.getD_eq_getElem?_getD, List.getElem?_eq_getElem hkl]
          rfl
        have hst : mkL l (k + 1) = mkL l k ++ [mk l[k]] := by unfold mkL; rw [List.take_succ_eq_append_getElem hkl, List.map_append]; rfl
        rw [hx] at e0 e1 e2 e3 e4 e5 e6 e7 e8 e9 e10 l0 g0
        obtain ⟨⟨r, tm, kd⟩, hxx⟩ : ∃ x, l[k] = x := ⟨_, rfl⟩
        rw [hxx] at e0 e1 e2 e3 e4 e5 e6 e7 e8 e9 e10 l0 g0 hst
        dsimp only at e0 e1 e2 e3 e4 e5 e6 e7 e8 e9 e10 l0 g0
        have HB := hide hB.out
        have HS := hide hs.out
        have hB' := HB.out
        have e0 := cellW e0 hB'
        have e1 := cellW e1 hB'
        have e2 := cellW e2 hB'
        have e3 := cellW e3 hB'
        have e4 := cellW e4 hB'
        have e5 := cellW e5 hB'
        have e6 := cellW e6 hB'
        have e7 := cellW e7 hB'
        have e8 := cellW e8 hB'
        have e9 := cellW e9 hB'
        have e10 := cellW e10 hB'
        have HG0 := hide (Kd.C_below g0 hB')
        have HL0 := hide l0
        obtain ⟨r0, r1, r2, r3, r4, r5, r6, r7, r8⟩ := r
        dsimp only at e0 e1 e2 e3 e4 e5 e6 e7 e8 HG0 HL0
        subst hA
        have hgn := heap_alloc_new wr (.cells #[.int .i64 r0, .int .i64 r1, .int .i64 r2, .int .i64 r3, .int .i64 r4, .int .i64 r5, .string r6, .slice A0 r7.length c0, .string r8, .bool true, .int .i64 kd] 26)
        have b1 := below_alloc (Below.refl wr.heap.size wr) (.cells #[.int .i64 r0, .int .i64 r1, .int .i64 r2, .int .i64 r3, .int .i64 r4, .int .i64 r5, .string r6, .slice A0 r7.length c0, .string r8, .bool true, .int .i64 kd] 26)
        obtain ⟨w2, hw1⟩ : ∃ x, wr.alloc (.cells #[.int .i64 r0, .int .i64 r1, .int .i64 r2, .int .i64 r3, .int .i64 r4, .int .i64 r5, .string r6, .slice A0 r7.length c0, .string r8, .bool true, .int .i64 kd] 26) = x := ⟨_, rfl⟩
        rw [hw1] at hgn b1
        obtain ⟨g, hg⟩ : ∃ x, wr.heap.size = x := ⟨_, rfl⟩
        rw [hg] at hgn
        have HW1 := hide hw1
        have HG := hide hg
        have HX2 := hide hgn
        have HB2 := hide (below_step hB' b1)
        have HC2 := hide (Kd.C_below HG0.out b1)
        have HS2 := hide (Kd.R_below HS.out b1)
        have HSW := hide (below_step hB' b1).size
        have HST := hide hst
        have hll : (mkL l k).length ≤ 20 := by unfold mkL; rw [List.length_map, List.length_take]; omega
        have HLL := hide hll
        have k1 : (k : Int) < (n : Int) := by omega
        have k2 : (0 : Int) ≤ (k : Int) := by omega
        have k3 : (k : Int) < 20 := by omega
        clear hlt hkl hx hxx hst hB hs hB' g0 l0 hgn b1 hw1 hg hll HG0
        go_upto_region 7 with fail
        rw [HW1.out, HG.out]
        have hx2 := HX2.out
        have cr0 : w2.cell? ⟨g, 0, none⟩ = some (.int .i64 r0) := cell_of_row _ _ 0 _ _ _ hx2
        have cr1 : w2.cell? ⟨g, 1, none⟩ = some (.int .i64 r1) := cell_of_row _ _ 1 _ _ _ hx2
        have cr2 : w2.cell? ⟨g, 2, none⟩ = some (.int .i64 r2) := cell_of_row _ _ 2 _ _ _ hx2
        have cr3 : w2.cell? ⟨g, 3, none⟩ = some (.int .i64 r3) := cell_of_row _ _ 3 _ _ _ hx2
        have cr4 : w2.cell? ⟨g, 4, none⟩ = some (.int .i64 r4) := cell_of_row _ _ 4 _ _ _ hx2
        have cr5 : w2.cell? ⟨g, 5, none⟩ = some (.int .i64 r5) := cell_of_row _ _ 5 _ _ _ hx2
        have cr6 : w2.cell? ⟨g, 6, none⟩ = some (.string r6) := cell_of_row _ _ 6 _ _ _ hx2
        have cr7 : w2.cell? ⟨g, 7, none⟩ = some (.slice A0 r7.length c0) := cell_of_row _ _ 7 _ _ _ hx2
        have cr8 : w2.cell? ⟨g, 8, none⟩ = some (.string r8) := cell_of_row _ _ 8 _ _ _ hx2
        have cr9 : w2.cell? ⟨g, 9, none⟩ = some (.bool true) := cell_of_row _ _ 9 _ _ _ hx2
        have cr10 : w2.cell? ⟨g, 10, none⟩ = some (.int .i64 kd) := cell_of_row _ _ 10 _ _ _ hx2
        have HMD := hide (made ⟨r0, r1, r2, r3, r4, r5, r6, r7, r8⟩ true kd A0 c0 w2 HC2.out HL0.out)
        rw [show madeL ⟨r0, r1, r2, r3, r4, r5, r6, r7, r8⟩ true kd = mk ⟨⟨r0, r1, r2, r3, r4, r5, r6, r7, r8⟩, tm, kd⟩ from rfl] at HMD
        obtain ⟨⟨o0, o1, o2, o3, o4, o5, o6, o7, o8⟩, ho⟩ : ∃ o, mk ⟨⟨r0, r1, r2, r3, r4, r5, r6, r7, r8⟩, tm, kd⟩ = o := ⟨_, rfl⟩
        rw [ho] at HMD HST
        unfold opV at HMD
        dsimp only at HMD
        clear hx2 ho HW1 HC2 HX2 e0 e1 e2 e3 e4 e5 e6 e7 e8 e9 e10
        go_wp2_with fail
        refine HMD.out.mono ?_
        rintro e w3 ⟨v7, rfl, hR7, hb3⟩
        obtain ⟨A7, c7, rfl, hl7, hC7⟩ := Kd.R_reads hR7
        dsimp only
        have HP := hide (mk24 ⟨o0, o1, o2, o3, o4, o5, o6, o7, o8⟩ (w0 := w2) HS2.out HSW.out hR7)
        have HS3 := hide (Kd.R_below HS2.out hb3)
        have HB3 := hide (below_step HB2.out hb3)
        clear hR7 hb3 hl7 hC7 cr0 cr1 cr2 cr3 cr4 cr5 cr6 cr7 cr8 cr9 cr10 HMD HS2 HB2
        go_wp2_with (at_builtin; refine Kd.R_append k24 (w0 := w) w.heap.size rfl (.tmp 42) (.tmp 45) 40 24 (.agg #[.int .i64 0, .int .i64 0, .int .i64 0, .int .i64 0, .int .i64 0, .int .i64 0, .string ⟨#[]⟩, .slice none 0 0, .string ⟨#[]⟩]) 104 rfl Tryd.underlying40 info24 rfl (by decide) (by decide) _ (mkL l k) ⟨o0, o1, o2, o3, o4, o5, o6, o7, o8⟩ [.int .i64 o0, .int .i64 o1, .int .i64 o2, .int .i64 o3, .int .i64 o4, .int .i64 o5, .string o6, .slice A7 o7.length c7, .string o8] (fun _ => True) (fun k => True ∧ some k ≠ sv.ownBlock) rfl rfl HP.out (fun _ h => h) (fun _ _ => trivial) HS3.out HB3.out HB3.out.size (by have := HLL.out; omega) ?_; intro v1 w13 hr1 hb1 hg1 hown; have HR1 := hide hr1; have HB1 := hide hb1; clear hr1 hb1 hg1 hown)
        go_roundw
        case rel => exact ⟨_, _, k + 1, rfl, rfl, by omega, by omega, by go_num, ⟨by rw [HST.out]; exact HR1.out⟩, ⟨HB1.out⟩⟩
        case measure => simp only [intOf]; omega
      · have HB := hide hB.out
        have HS := hide hs.out
        clear hs hB
        by_cases k1 : (k : Int) < (n : Int)
        all_goals
          first
          | have k3 : ¬ (k : Int) < 20 := by omega
          | skip
          clear hlt
          go_wp2_with fail
          go_meet
          exact ⟨k, hk20, HS.out, HB.out⟩
  case rest =>
    obtain ⟨k, hk20, hs, hB⟩ := hcut
    obtain ⟨L, hL⟩ : ∃ L, mkL l k = L := ⟨_, rfl⟩
    have hlen := mkL_len l k hk20
    have hall := mkL_all l k
    have hde := dec_enc l k
    have hLn : L.length ≤ 20 := by rw [← hL]; unfold mkL; rw [List.length_map, List.length_take]; omega
    rw [hL] at hs hlen hall hde
    obtain ⟨As, cs, hsv, hcs, hCs⟩ := Kd.R_reads hs
    have HB := hide hB
    have HE := hide (encode L As cs wc hCs hcs (by omega))
    have HCS := hide hCs
    have HCSL := hide hcs
    have HALL := hide hall
    have HDE := hide hde
    have HLEN := hide hlen
    have HLN := hide hLn
    obtain ⟨Ln, hln⟩ : ∃ n, L.length = n := ⟨_, rfl⟩
    have HLNE := hide hln
    subst hsv
    rw [hln] at HE HCSL HCS ⊢
    clear hs hB hlen hall hde hLn hCs hcs hL hk20 hln
    obtain ⟨w0, hw0⟩ : ∃ x, x = wc := ⟨_, rfl⟩
    subst hw0
    go_wp2_with fail
    refine HE.out.mono ?_
    rintro e w2 ⟨hb2, hif⟩
    rw [if_pos HALL.out] at hif
    obtain ⟨vb, rfl, Ab, cb, rfl, hRb, hBb⟩ := hif
    dsimp only
    have HB2 := hide (below_step HB.out hb2)
    have HCS2 := hide (Kd.C_below HCS.out hb2)
    have HRB2 := hide hRb
    have hD := Dec.decode w2 Ab cb (encL L) (Kd.R_reads' hRb).2.2 (Kd.R_reads' hRb).2.1 (encL_byt L) (by have := HLEN.out; omega)
    rw [HDE.out] at hD
    have HD := hide hD
    have HBLK := hide (show Below w0.heap.size w0 w2 from hb2)
    obtain ⟨bl, hbl⟩ : ∃ x, encL L = x := ⟨_, rfl⟩
    have HBL := hide hbl
    have hbyt := encL_byt L
    rw [hbl] at HD HRB2 hbyt
    have hblen := HLEN.out
    rw [hbl] at hblen ⊢
    have HBYT := hide hbyt
    obtain ⟨bn, hbn⟩ : ∃ x, bl.length = x := ⟨_, rfl⟩
    have HBN := hide hbn
    rw [hbn] at HD HRB2 hblen ⊢
    clear hb2 hRb hBb hD hbl hbyt hbn HE
    go_wp2_with fail
    refine HD.out.mono ?_
    rintro e w3 ⟨hb3, hdm⟩
    obtain ⟨vm, rfl, hRm⟩ := hdm
    obtain ⟨Am, cm, rfl, hlm, hCm⟩ := Kd.R_reads hRm
    rw [HLNE.out] at hCm hlm ⊢
    dsimp only
    have HB3 := hide (below_step HB2.out hb3)
    have HCS3 := hide (Kd.C_below HCS2.out hb3)
    have HCM3 := hide hCm
    have HRB3 := hide (Kd.R_below HRB2.out hb3)
    have hln20 : Ln ≤ 20 := by have := HLN.out; have := HLNE.out; omega
    clear hb3 hRm hCm hlm HD HRB2 HCS2
    go_wp2_with fail
    go_loopw [18] (fun i wr => ∃ k : Nat, k ≤ Ln ∧ i = .int .i64 (k : Int) ∧ Aside0 (Below w3.heap.size w3 wr)) (fun i _ => Ln - (intOf i).toNat)
    case atStart => exact ⟨0, Nat.zero_le _, rfl, ⟨Below.refl _ _⟩⟩
    case round =>
      obtain ⟨k, hkn, rfl, hbr⟩ := hrel
      have HBr := hide hbr.out
      clear hbr
      by_cases hlt : k < Ln
      · 
        obtain ⟨am, M7, d7, hAm, y0, y1, y2, y3, y4, y5, y6, y7, y8, lm, gm⟩ := at_T24 HCM3.out (k : Int) (by omega) (by omega)
        obtain ⟨as_, S7, e7, hAs, z0, z1, z2, z3, z4, z5, z6, z7, z8, ls, gs⟩ := at_T24 HCS3.out (k : Int) (by omega) (by omega)
        obtain ⟨⟨o0, o1, o2, o3, o4, o5, o6, o7, o8⟩, hp⟩ : ∃ y, rd_T24 L (k : Int) = y := ⟨_, rfl⟩
        rw [hp] at y0 y1 y2 y3 y4 y5 y6 y7 y8 lm gm z0 z1 z2 z3 z4 z5 z6 z7 z8 ls gs
        dsimp only at y0 y1 y2 y3 y4 y5 y6 y7 y8 lm gm z0 z1 z2 z3 z4 z5 z6 z7 z8 ls gs
        rw [Int.toNat_natCast] at y0 y1 y2 y3 y4 y5 y6 y7 y8 z0 z1 z2 z3 z4 z5 z6 z7 z8
        have HY := hide (fun W (hb : Below w3.heap.size w3 W) => (⟨cellW y0 hb, cellW y1 hb, cellW y2 hb, cellW y3 hb, cellW y4 hb, cellW y5 hb, cellW y6 hb, cellW y7 hb, cellW y8 hb, cellW z0 hb, cellW z1 hb, cellW z2 hb, cellW z3 hb, cellW z4 hb, cellW z5 hb, cellW z6 hb, cellW z7 hb, cellW z8 hb, hb⟩ : W.cell? (am.add (k * 9)) = some (.int .i64 o0) ∧ W.cell? ⟨(am.add (k * 9)).block, (am.add (k * 9)).off + 1, none⟩ = some (.int .i64 o1) ∧ W.cell? ⟨(am.add (k * 9)).block, (am.add (k * 9)).off + 2, none⟩ = some (.int .i64 o2) ∧ W.cell? ⟨(am.add (k * 9)).block, (am.add (k * 9)).off + 3, none⟩ = some (.int .i64 o3) ∧ W.cell? ⟨(am.add (k * 9)).block, (am.add (k * 9)).off + 4, none⟩ = some (.int .i64 o4) ∧ W.cell? ⟨(am.add (k * 9)).block, (am.add (k * 9)).off + 5, none⟩ = some (.int .i64 o5) ∧ W.cell? ⟨(am.add (k * 9)).block, (am.add (k * 9)).off + 6, none⟩ = some (.string o6) ∧ W.cell? ⟨(am.add (k * 9)).block, (am.add (k * 9)).off + 7, none⟩ = some (.slice M7 o7.length d7) ∧ W.cell? ⟨(am.add (k * 9)).block, (am.add (k * 9)).off + 8, none⟩ = some (.string o8) ∧ W.cell? (as_.add (k * 9)) = some (.int .i64 o0) ∧ W.cell? ⟨(as_.add (k * 9)).block, (as_.add (k * 9)).off + 1, none⟩ = some (.int .i64 o1) ∧ W.cell? ⟨(as_.add (k * 9)).block, (as_.add (k * 9)).off + 2, none⟩ = some (.int .i64 o2) ∧ W.cell? ⟨(as_.add (k * 9)).block, (as_.add (k * 9)).off + 3, none⟩ = some (.int .i64 o3) ∧ W.cell? ⟨(as_.add (k * 9)).block, (as_.add (k * 9)).off + 4, none⟩ = some (.int .i64 o4) ∧ W.cell? ⟨(as_.add (k * 9)).block, (as_.add (k * 9)).off + 5, none⟩ = some (.int .i64 o5) ∧ W.cell? ⟨(as_.add (k * 9)).block, (as_.add (k * 9)).off + 6, none⟩ = some (.string o6) ∧ W.cell? ⟨(as_.add (k * 9)).block, (as_.add (k * 9)).off + 7, none⟩ = some (.slice S7 o7.length e7) ∧ W.cell? ⟨(as_.add (k * 9)).block, (as_.add (k * 9)).off + 8, none⟩ = some (.string o8) ∧ Below w3.heap.size w3 W))
        have HS17 := hide (fun W (hb : Below w3.heap.size w3 W) => keepOp ⟨o0, o1, o2, o3, o4, o5, o6, o7, o8⟩ ⟨o0, o1, o2, o3, o4, o5, o6, o7, o8⟩ M7 S7 d7 e7 W (Kd.C_below gm hb) lm (Kd.C_below gs hb) ls)
        have HS9 := hide (fun W (hb : Below w3.heap.size w3 W) => sameOp ⟨o0, o1, o2, o3, o4, o5, o6, o7, o8⟩ ⟨o0, o1, o2, o3, o4, o5, o6, o7, o8⟩ M7 S7 d7 e7 W (Kd.C_below gm hb) lm (Kd.C_below gs hb) ls)
        rw [sameB_refl] at HS17 HS9
        dsimp only at HS17 HS9
        obtain ⟨y0, y1, y2, y3, y4, y5, y6, y7, y8, z0, z1, z2, z3, z4, z5, z6, z7, z8, -⟩ := HY.out wr HBr.out
        subst hAm
        subst hAs
        have k1 : (k : Int) < (Ln : Int) := by omega
        have k2 : (0 : Int) ≤ (k : Int) := by omega
        clear hp lm gm ls gs
        go_upto_region 15 with fail
        go_cut [97] from 70 to 97 (fun v wx => v = .bool false ∧ Below w3.heap.size w3 wx)
        case first =>
          go_region_held3 (fun W => W.cell? (am.add (k * 9)) = some (.int .i64 o0) ∧ W.cell? ⟨(am.add (k * 9)).block, (am.add (k * 9)).off + 1, none⟩ = some (.int .i64 o1) ∧ W.cell? ⟨(am.add (k * 9)).block, (am.add (k * 9)).off + 2, none⟩ = some (.int .i64 o2) ∧ W.cell? ⟨(am.add (k * 9)).block, (am.add (k * 9)).off + 3, none⟩ = some (.int .i64 o3) ∧ W.cell? ⟨(am.add (k * 9)).block, (am.add (k * 9)).off + 4, none⟩ = some (.int .i64 o4) ∧ W.cell? ⟨(am.add (k * 9)).block, (am.add (k * 9)).off + 5, none⟩ = some (.int .i64 o5) ∧ W.cell? ⟨(am.add (k * 9)).block, (am.add (k * 9)).off + 6, none⟩ = some (.string o6) ∧ W.cell? ⟨(am.add (k * 9)).block, (am.add (k * 9)).off + 7, none⟩ = some (.slice M7 o7.length d7) ∧ W.cell? ⟨(am.add (k * 9)).block, (am.add (k * 9)).off + 8, none⟩ = some (.string o8) ∧ W.cell? (as_.add (k * 9)) = some (.int .i64 o0) ∧ W.cell? ⟨(as_.add (k * 9)).block, (as_.add (k * 9)).off + 1, none⟩ = some (.int .i64 o1) ∧ W.cell? ⟨(as_.add (k * 9)).block, (as_.add (k * 9)).off + 2, none⟩ = some (.int .i64 o2) ∧ W.cell? ⟨(as_.add (k * 9)).block, (as_.add (k * 9)).off + 3, none⟩ = some (.int .i64 o3) ∧ W.cell? ⟨(as_.add (k * 9)).block, (as_.add (k * 9)).off + 4, none⟩ = some (.int .i64 o4) ∧ W.cell? ⟨(as_.add (k * 9)).block, (as_.add (k * 9)).off + 5, none⟩ = some (.int .i64 o5) ∧ W.cell? ⟨(as_.add (k * 9)).block, (as_.add (k * 9)).off + 6, none⟩ = some (.string o6) ∧ W.cell? ⟨(as_.add (k * 9)).block, (as_.add (k * 9)).off + 7, none⟩ = some (.slice S7 o7.length e7) ∧ W.cell? ⟨(as_.add (k * 9)).block, (as_.add (k * 9)).off + 8, none⟩ = some (.string o8) ∧ Below w3.heap.size w3 W)
            (first | exact HY.out _ HBr.out | exact HY.out _ (Below.drew HBr.out) | ((try go_split_ands); exact HY.out _ (below_step (by assumption) b9)) | ((try go_split_ands); exact HY.out _ (below_step (by assumption) b17)))
            (first | (go_at_call 9; (try go_split_ands); (with_reducible refine (HS9.out _ (by assumption)).mono ?_); rintro e wn ⟨rfl, b9⟩) | (go_at_call 17; (try go_split_ands); (with_reducible refine (HS17.out _ (by assumption)).mono ?_); rintro e wn ⟨rfl, b17⟩))
          all_goals (go_wp2_with fail; go_meet; (try go_split_ands); exact ⟨rfl, by assumption⟩)
        case rest =>
          obtain ⟨rfl, hbx⟩ := hcut
          have HBX := hide hbx
          clear hbx HY HS17 HS9 y0 y1 y2 y3 y4 y5 y6 y7 y8 z0 z1 z2 z3 z4 z5 z6 z7 z8
          go_wp2_with fail
          go_roundw
          case rel => exact ⟨k + 1, by omega, by go_num, ⟨HBX.out⟩⟩
          case measure => simp only [intOf]; omega
      · have k1 : ¬ (k : Int) < (Ln : Int) := by omega
        have HBa := hide (below_step HB3.out HBr.out)
        have HRBa := hide (Kd.R_below HRB3.out HBr.out)
        clear hlt HCS3 HCM3 HRB3
        go_upto_if 100 with fail
        go_cut [14, 19] from 98 to 116 (fun v _ wx => YOk w wx v ∧ Below w.heap.size w wx)
        case first =>
          have hrd := Kd.R_reads' HRBa.out
          have HYB := hide (show kB.C wr Ab bl.length bl from hrd.2.2)
          have hcb : bn ≤ cb := hrd.2.1
          by_cases hb0 : bn = 0
          · subst hb0
            clear hrd
            go_wp2_with fail
            go_meet
            exact ⟨⟨Ab, bl, cb, by rw [HBN.out], HYB.out, by rw [HBN.out]; exact hcb, HBYT.out, by rw [HBN.out]; exact hblen⟩, HBa.out⟩
          · obtain ⟨m, rfl⟩ : ∃ m, bn = m + 1 := ⟨bn - 1, by omega⟩
            have hw := with_some at_ m (by omega)
            obtain ⟨kk, hkk⟩ : ∃ j, withL at_ m = j := ⟨_, rfl⟩
            rw [hkk] at hw
            have hkm := hw.2
            have hm1 : ((m + 1 : Nat) : Int) - 1 = (m : Int) := by omega
            have HW := hide (fun W => arbourbook_Within.calls at_ 0 (m : Int) (kk : Int) W hw.1)
            obtain ⟨gb, capb, ev, hgb, hglt, cells, hcells⟩ := Kd.R_form HRBa.out (by rw [HBN.out]; omega)
            injection ev with ev1 ev2 ev3
            subst ev1
            have hkl : kk < bl.length := by rw [HBN.out]; omega
            obtain ⟨ad, hA, hcc⟩ := HYB.out.2.2 (by omega)
            injection hA with hA
            subst hA
            obtain ⟨cs', -, hK, hcell⟩ := hcc kk bl[kk] (List.getElem?_eq_getElem hkl)
            have hcs' : cs' = [.int .u8 bl[kk]] := hK
            have hx := hcell 0 (.int .u8 bl[kk]) (by rw [hcs']; rfl)
            rw [show kk * kB.sz + 0 = kk from by show kk * 1 + 0 = kk; omega, show (⟨gb, 0, none⟩ : Addr).add kk = ⟨gb, kk, none⟩ from by rw [add_at, Nat.zero_add]] at hx
            have hxb := HBYT.out bl[kk] (List.getElem_mem hkl)
            obtain ⟨y, hy⟩ : ∃ y, bl[kk] = y := ⟨_, rfl⟩
            rw [hy] at hx hxb
            have HCELLS := hide hcells
            have HXc := hide hx
            have hz := xor_byt y turn hxb HTU.out
            obtain ⟨z, hzz⟩ : ∃ z, bits BinOp.xor IntKind.u8 y turn = z := ⟨_, rfl⟩
            rw [hzz] at hz
            have HZZ := hide hzz
            have HGB := hide (Nat.le_trans HB.out.size hgb)
            have hby2 : Byt (bl.set kk z) := by
              intro u hu
              rcases List.mem_or_eq_of_mem_set hu with h | h
              · exact HBYT.out u h
              · rw [h]; exact hz
            have HBY2 := hide hby2
            have hsl : (bl.set kk z).length = m + 1 := by rw [List.length_set, HBN.out]
            have HSL := hide hsl
            have k2 : (0 : Int) ≤ (kk : Int) := by omega
            have k3 : (kk : Int) < ((m + 1 : Nat) : Int) := by omega
            have k4 : (kk : Int) < (m : Int) + 1 := by omega
            have k5 : (0 : Int) < (m : Int) + 1 := by omega
            obtain ⟨i0, hi0, hsz0⟩ := info5D
            have hcut := cut_to (P := Tryd.prog) 36 5 .i64 Tryd.underlying36 hi0 (some ⟨gb, 0, none⟩) (m + 1) cb (kk : Int) (by omega) (by omega) hcb
            rw [Int.toNat_natCast] at hcut
            clear hw hx hkk hcells ev2 ev3 hcc hK hcell hcs' hy hz hzz hby2 hsl hkl hrd hi0 hsz0 hgb hglt hb0
            go_wp2_with fail
            refine (HW.out _).mono ?_
            rintro e wn ⟨rfl, nq, hnq⟩
            have hbn : Below wr.heap.size wr wn := by rw [hnq]; exact pw_below_drewN (Below.refl _ _) _
            have hx := cellW HXc.out hbn
            have fx := blk_frozen ((hbn.block _ (blk_lt HCELLS.out)).trans HCELLS.out) kk
            have hrow := Kd.R_putn (Kd.R_below HRBa.out hbn) (kk : Int) z
            rw [Int.toNat_natCast] at hrow
            have HROW := hide hrow
            have HBS := hide ((below_step HBa.out hbn).setCell (p := ⟨gb, kk, none⟩) HGB.out (.int .u8 z))
            have hz2 := HZZ.out
            dsimp only
            clear hbn hrow hnq
            cases ct with
            | false =>
              go_wp2_with fail
              go_meet
              have hr := Kd.R_reads' HROW.out
              exact ⟨⟨_, bl.set kk z, cb, by rw [HSL.out], hr.2.2, by rw [HSL.out]; exact hcb, HBY2.out, by rw [HSL.out]; exact hblen⟩, HBS.out⟩
            | true =>
              go_wp2_with fail
              go_meet
              have hr := Kd.R_reads' HROW.out
              have ht := Kd.C_take (m := kk) hr.2.2 (by rw [HSL.out]; omega)
              have hl : ((bl.set kk z).take kk).length = kk := by rw [List.length_take, HSL.out]; omega
              exact ⟨⟨_, (bl.set kk z).take kk, cb, by rw [hl], ht, by rw [hl]; omega, fun u hu => HBY2.out u (List.mem_of_mem_take hu), by rw [hl]; omega⟩, HBS.out⟩
        case rest =>
          obtain ⟨hy, hB⟩ := hcut
          obtain ⟨Ay, ys, cy, rfl, hYC, hYl, hYB, hYn⟩ := hy
          have HB := hide hB
          have hXC := Kd.C_below HX.out.1 hB
          have hXl := HX.out.2
          have hxnn := HXN.out
          have hx100 : (xs.take 100).length ≤ 100 := by rw [List.length_take]; omega
          have hXT : kB.C wc X (xs.take 100).length (xs.take 100) := by
            have := Kd.C_take (m := min 100 xs.length) hXC (by omega)
            rw [show xs.take (min 100 xs.length) = xs.take 100 from by rw [← List.take_take, List.take_length]] at this
            exact this
          have hXB : Byt (xs.take 100) := fun u hu => HBX.out u (List.mem_of_mem_take hu)
          have hXc : (xs.take 100).length ≤ cx := by rw [List.length_take]; omega
          have HCUT := hide (cutC X cx xs wc (by omega) hXl)
          rw [hxnn] at HCUT
          obtain ⟨yn, hyn⟩ : ∃ n, ys.length = n := ⟨_, rfl⟩
          obtain ⟨x1, hx1⟩ : ∃ n, (xs.take 100).length = n := ⟨_, rfl⟩
          rw [hx1] at HCUT
          rw [hyn]
          have hgn := heap_alloc_new wc (.cells #[.slice Ay yn cy, .slice X x1 cx] 36)
          have b1 := below_alloc (Below.refl wc.heap.size wc) (.cells #[.slice Ay yn cy, .slice X x1 cx] 36)
          obtain ⟨w5, hw5⟩ : ∃ x, wc.alloc (.cells #[.slice Ay yn cy, .slice X x1 cx] 36) = x := ⟨_, rfl⟩
          rw [hw5] at hgn b1
          obtain ⟨gy, hgy⟩ : ∃ x, wc.heap.size = x := ⟨_, rfl⟩
          rw [hgy] at hgn
          have HW5 := hide hw5
          have HGY := hide hgy
          have HX5 := hide hgn
          have HB5 := hide (below_step hB b1)
          have HYV := hide (show ∃ (As : List Int), kB.C w5 Ay yn As ∧ As.length = yn ∧ yn ≤ cy ∧ Byt As ∧ yn ≤ 20000 from ⟨ys, by rw [← hyn]; exact Kd.C_below hYC b1, hyn, by rw [← hyn]; exact hYl, hYB, by rw [← hyn]; exact hYn⟩)
          have HXV := hide (show ∃ (As : List Int), kB.C w5 X x1 As ∧ As.length = x1 ∧ x1 ≤ cx ∧ Byt As ∧ x1 ≤ 20000 from ⟨xs.take 100, by rw [← hx1]; exact Kd.C_below hXT b1, hx1, by rw [← hx1]; exact hXc, hXB, by omega⟩)
          clear hB hXC hXl hxnn hx100 hXT hXB hXc hYC hYl hYB hYn hyn hx1 hgn b1 hw5 hgy
          go_wp2_with fail
          refine HCUT.out.mono ?_
          rintro e wq ⟨rfl, rfl⟩
          dsimp only
          go_wp2_with fail
          rw [HW5.out, HGY.out]
          go_loopw [122] (fun i wr => ∃ j : Nat, j ≤ 2 ∧ i = .int .i64 (j : Int) ∧ Aside0 (Below w5.heap.size w5 wr)) (fun i _ => 2 - (intOf i).toNat)
          case atStart => exact ⟨0, by omega, rfl, ⟨Below.refl _ _⟩⟩
          case round =>
            obtain ⟨j, hj, rfl, hbr⟩ := hrel
            have HBr := hide hbr.out
            clear hbr HCUT
            have hX5 := (HBr.out.block _ (blk_lt HX5.out)).trans HX5.out
            have d0 : wr.cell? ⟨gy, 0, none⟩ = some (.slice Ay yn cy) := cell_of_row _ _ 0 _ _ _ hX5
            have d1 : wr.cell? ⟨gy, 1, none⟩ = some (.slice X x1 cx) := cell_of_row _ _ 1 _ _ _ hX5
            clear hX5
            have HBw := hide (below_step HB5.out HBr.out)
            by_cases hj2 : j = 2
            · subst hj2
              have HK := hide (known wr (HT.out.below HBw.out))
              go_wp2_with fail
              refine HK.out.mono ?_
              rintro e w9 ⟨rfl, hb9⟩
              dsimp only
              have HB9 := hide (below_step HBw.out hb9)
              clear hb9
              go_wp2_with fail
              go_ret
              exact ⟨rfl, HB9.out⟩
            · have hY : ∃ (Av : Option Addr) (vn cv : Nat) (As : List Int), wr.cell? ⟨gy, j, none⟩ = some (.slice Av vn cv) ∧ kB.C wr Av vn As ∧ As.length = vn ∧ vn ≤ cv ∧ Byt As ∧ vn ≤ 20000 := by
                obtain ⟨A1, a1, a2, a3, a4, a5⟩ := HYV.out
                obtain ⟨A2, b1, b2, b3, b4, b5⟩ := HXV.out
                rcases (by omega : j = 0 ∨ j = 1) with rfl | rfl
                · exact ⟨Ay, yn, cy, A1, d0, Kd.C_below a1 HBr.out, a2, a3, a4, a5⟩
                · exact ⟨X, x1, cx, A2, d1, Kd.C_below b1 HBr.out, b2, b3, b4, b5⟩
              obtain ⟨Av, vn, cv, As, dj, hAC, hAl, hAc, hAB, hAn⟩ := hY
              have HAL := hide hAl
              have HAC := hide (show kB.C wr Av As.length As from by rw [hAl]; exact hAC)
              have HRM := hide (roomyC Av cv As wr HAC.out (by omega) (by omega))
              rw [hAl] at HRM
              have HAB := hide hAB
              have HAc := hide hAc
              have HAn := hide hAn
              have j1 : (j : Int) < 2 := by omega
              have j2 : (0 : Int) ≤ (j : Int) := by omega
              clear hAC hAl hAB hAc hAn d0 d1
              go_wp2_with fail
              refine HRM.out.mono ?_
              rintro e w6 ⟨F, cf, rfl, hcf, hF, hb6⟩
              rw [HAL.out] at hcf hF
              rw [HAL.out]
              dsimp only
              have hF2 : kB.C w6 F (roomyL As).length (roomyL As) := by rw [roomyL_length, HAL.out]; exact hF
              have ht := Kd.C_take (m := As.length) hF2 (by rw [roomyL_length]; omega)
              have et : (roomyL As).take As.length = As := by unfold roomyL; simp
              rw [et] at ht
              have hD := Dec.decode w6 F cf As ht (by have := HAL.out; omega) HAB.out (by have := HAL.out; have := HAn.out; omega)
              have HOKK := hide (fun L2 (h : decL (As.length + 1) (As, false) [] = some L2) => decL_ok _ _ _ _ h HAB.out)
              obtain ⟨r, hr⟩ : ∃ r, decL (As.length + 1) (As, false) [] = r := ⟨_, rfl⟩
              rw [hr] at hD HOKK
              rw [HAL.out] at hD
              have HD := hide hD
              obtain ⟨i0, hi0, hsz0⟩ := info5D
              have hcut2 := cut_to (P := Tryd.prog) 36 5 .i64 Tryd.underlying36 hi0 F (vn + 80) cf (vn : Int) (by omega) (by omega) hcf
              rw [Int.toNat_natCast] at hcut2
              have HB6 := hide (below_step HBw.out hb6)
              have HBR6 := hide (below_step HBr.out hb6)
              have HI := hide (fun W (hb : Below w6.heap.size w6 W) => intactC Av F cv cf As W (Kd.C_below HAC.out (below_step hb6 hb)) (by have := HAL.out; have := HAc.out; omega) (by rw [HAL.out]; exact Kd.C_below hF hb) (by have := HAL.out; omega) (by have := HAL.out; have := HAn.out; omega))
              rw [HAL.out] at HI
              have HC6 := hide (fun W (hb : Below w6.heap.size w6 W) => Kd.C_below HAC.out (below_step hb6 hb))
              clear hF hb6 hF2 ht et hD hr hi0 hsz0 HRM hcf
              go_wp2_with fail
              refine HD.out.mono ?_
              rintro e w7 ⟨hb7, hm⟩
              have HB7 := hide hb7
              have HBR7 := hide (below_step HBR6.out hb7)
              clear hb7 hcut2 HD
              cases r with
              | none =>
                obtain rfl : e = _ := hm
                dsimp only
                go_wp2_with fail
                refine (HI.out w7 HB7.out).mono ?_
                rintro e w8 ⟨rfl, hb8⟩
                dsimp only
                have HBR8 := hide (below_step HBR7.out hb8)
                clear hb8
                go_wp2_with fail
                go_roundw
                case rel => exact ⟨j + 1, by omega, by go_num, ⟨HBR8.out⟩⟩
                case measure => simp only [intOf]; omega
              | some L2 =>
                obtain ⟨v2, rfl, hR2⟩ := hm
                obtain ⟨A2, c2, rfl, hl2, hC2⟩ := Kd.R_reads hR2
                dsimp only
                obtain ⟨new, hn1, hn2, hn3⟩ := HOKK.out L2 rfl
                rw [List.nil_append] at hn1
                subst hn1
                have HN2 := hide hn2
                have HN3 := hide hn3
                have HC2 := hide hC2
                have HL2 := hide hl2
                obtain ⟨n2, hn2'⟩ : ∃ n, L2.length = n := ⟨_, rfl⟩
                have HN2' := hide hn2'
                rw [hn2']
                clear hR2 hl2 hC2 hn2 hn3 hn2'
                go_wp2_with fail
                refine (HI.out w7 HB7.out).mono ?_
                rintro e w8 ⟨rfl, hb8⟩
                dsimp only
                have HB8 := hide (below_step HB7.out hb8)
                have HBR8 := hide (below_step HBR7.out hb8)
                have HEN := hide (encode L2 A2 c2 w8 (Kd.C_below HC2.out hb8) HL2.out (by rw [HN2.out]; show As.length ≤ _; have := HAL.out; have := HAn.out; omega))
                rw [HN2'.out] at HEN
                clear hb8
                go_wp2_with fail
                refine HEN.out.mono ?_
                rintro e w10 ⟨hb10, hif⟩
                rw [if_pos HN3.out, HN2.out] at hif
                obtain ⟨vz, rfl, Az, cz, rfl, hRz, hBz⟩ := hif
                dsimp only at hRz ⊢
                have q1 := conv (c := cz) (Kd.R_reads' hRz).2.2
                have q2 := conv (c := cv) (HC6.out w10 (below_step HB8.out hb10))
                rw [HAL.out] at q1 q2 ⊢
                obtain ⟨SE, hSE⟩ : ∃ s, strOfNums As = s := ⟨_, rfl⟩
                rw [hSE] at q1 q2
                have HBR10 := hide (below_step HBR8.out hb10)
                clear hb10 hRz hBz hSE HEN
                go_wp2_with fail
                go_roundw
                case rel => exact ⟨j + 1, by omega, by go_num, ⟨HBR10.out⟩⟩
                case measure => simp only [intOf]; omega
end Back
end Go.Proofs.YtbljbgjecnmeeaaDoor.OpP
