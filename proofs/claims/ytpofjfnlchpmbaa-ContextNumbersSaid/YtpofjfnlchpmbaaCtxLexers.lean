/- The walks of arbourlaw20.known and of the law ContextLexers: true. -/
import Derived.Test.YtpofjfnlchpmbaaCtxReset
import Derived.Deep.RegionLaw
namespace Go.Proofs.Ytpofjfnlchpmbaa.Ctx
open Go.RowKit Go.Proofs.Ytpofjfnlchpmbaa.PContextTells Go.Proofs.YtpofjfnlchpmbaaW.PrintWords Go.Proofs.YtpofjfnlchpmbaaW.PrintLast

theorem cellW {W W' : World} {p : Addr} {v : Value} (h : W.cell? p = some v) (hb : Below W.heap.size W W') : W'.cell? p = some v := (hb.cell (World.block_lt_of_cell? _ _ h)).trans h
def L4 : List (Int × Bool) := [(28, false), (27, false), (5, false), (6, false)]
theorem known_mode : res (itsN L4 4) none 0 true 4 = 11 := by decide +kernel
theorem known_lex : context_Lexer.f 5 1 ⟨#[116, 105, 116, 108, 101]⟩ [] false = some 2 := by decide +kernel
theorem els_blk {w : World} {g : Nat} {t : TypeId} {cs : Array Value} (h : w.heap[g]? = some (.cells cs t (0, 0))) (l : List (Int × Bool)) (hcs : ∀ j p, l[j]? = some p → cs[j * 2]? = some (.int .i64 p.1) ∧ cs[j * 2 + 1]? = some (.bool p.2)) (hm : l.length ≤ 9223372036854775807) : kEl.C w (some ⟨g, 0, none⟩) l.length l := by
  refine ⟨rfl, hm, fun _ => ⟨_, rfl, fun j p hj => ⟨[.int .i64 p.1, .bool p.2], rfl, ⟨[.int .i64 p.1], [.bool p.2], rfl, rfl, rfl⟩, fun i u hu => ?_⟩⟩⟩
  have ea : ∀ m, (⟨g, 0, none⟩ : Addr).add m = ⟨g, m, none⟩ := by intro m; unfold Addr.add; split <;> simp_all
  rw [ea, cell_of_row w g _ cs t (0, 0) h]
  obtain ⟨h0, h1⟩ := hcs j p hj
  match i, hu with
  | 0, hu => rw [← hu]; exact h0
  | 1, hu => rw [← hu]; exact h1

set_option maxHeartbeats 4000000 in
set_option maxRecDepth 100000 in
theorem known (w : World) : Calls Try.prog 9 #[] w fun e w' => e = .returned (.bool true) ∧ Below w.heap.size w w' := by
  have hc0 := els_blk (heap_alloc_new w (.cells #[.int .i64 28, .bool false, .int .i64 27, .bool false, .int .i64 5, .bool false, .int .i64 6, .bool false] 40)) L4 (by
    intro j p hj
    match j, hj with
    | 0, hj => cases hj; exact ⟨rfl, rfl⟩
    | 1, hj => cases hj; exact ⟨rfl, rfl⟩
    | 2, hj => cases hj; exact ⟨rfl, rfl⟩
    | 3, hj => cases hj; exact ⟨rfl, rfl⟩) (by decide)
  have hb0 : Below w.heap.size w (w.alloc (.cells #[.int .i64 28, .bool false, .int .i64 27, .bool false, .int .i64 5, .bool false, .int .i64 6, .bool false] 40)) := below_alloc (Below.refl _ _) _
  have HC := hide hc0
  have HB := hide hb0
  clear hc0 hb0
  go_enter Try.func9, Try.ntmps9
  go_wp2_with fail
  obtain ⟨w1, hw1⟩ : ∃ w1, w.alloc (.cells #[.int .i64 28, .bool false, .int .i64 27, .bool false, .int .i64 5, .bool false, .int .i64 6, .bool false] 40) = w1 := ⟨_, rfl⟩
  rw [hw1] at HC HB ⊢
  clear hw1
  refine (list _ 4 L4 w1 HC.out).mono ?_
  rintro e w2 ⟨g, s, v, vo, rfl, hl, -, hb⟩
  rw [show min L4.length 20 = 4 from rfl] at hl
  have HL := hide hl
  have HB2 := hide (below_step HB.out hb)
  clear hl hb HC HB
  dsimp only
  have hreset := resetN w1.heap.size g s v (itsN L4 4) 0 true w2 HL.out (by rw [itsN_len]; omega)
  rw [itsN_len, known_mode] at hreset
  have HRS := hide hreset
  clear hreset
  go_wp2_with fail
  refine HRS.out.mono ?_
  rintro e w3 ⟨rfl, hb⟩
  have HB3 := hide (below_step HB2.out hb)
  clear hb HB2 HRS HL
  dsimp only
  go_wp2_with fail
  refine (context_Lexer.calls 5 1 ⟨#[116, 105, 116, 108, 101]⟩ none 0 [] false 2 w3 (Kd.C_nil _ _) (Nat.le_refl _) known_lex).mono ?_
  rintro e w4 ⟨rfl, hb⟩
  have HB4 := hide (below_step HB3.out hb)
  clear hb HB3
  dsimp only
  go_wp2_with fail
  go_ret
  exact ⟨rfl, HB4.out⟩
/-- The first of a text. -/
def headL (a : ByteArray) : ByteArray := if (a.size : Int) > 20 then a.extract 0 20 else a
theorem head (a : ByteArray) (w : World) : Calls Try.prog 6 #[.string a, .int .i64 20] w fun e w' => e = .returned (.string (headL a)) ∧ Drawn0 w w' := by
  refine arbourkeep_Head.calls a 20 (headL a) w ?_
  unfold arbourkeep_Head.f headL
  by_cases h : (a.size : Int) > 20
  · rw [if_pos h, if_pos (by omega), if_pos (by omega), if_pos h]; rfl
  · rw [if_neg h, if_neg h]
theorem head_some (s : ByteArray) (n : Int) (h : 0 ≤ n) : ∃ r, arbourkeep_Head.f s n = some r := by
  unfold arbourkeep_Head.f
  by_cases h1 : n < (s.size : Int)
  · rw [if_pos h1, if_pos h, if_pos (by omega)]; exact ⟨_, rfl⟩
  · rw [if_neg h1]; exact ⟨_, rfl⟩
theorem short_loop (ys : List S44) : ∀ (d k i : Nat) (acc : List S44), 6 - i = d → i ≤ 6 → acc.length = i → 2 * d + 3 < k → ∃ r, arbourkeep_Short.l0 k ys acc (i : Int) = some r ∧ r.length ≤ 6 := by
  intro d
  induction d with
  | zero =>
    intro k i acc hd hi ha hk
    obtain ⟨m, rfl⟩ : ∃ m, k = m + 1 + 1 := ⟨k - 2, by omega⟩
    unfold arbourkeep_Short.l0
    refine ⟨acc, ?_, by omega⟩
    have e6 : decide ((i : Int) < 6) = false := decide_eq_false (by omega)
    rw [e6]
    split <;> (unfold arbourkeep_Short.j1; rw [if_neg (by decide)])
  | succ d ih =>
    intro k i acc hd hi ha hk
    obtain ⟨m, rfl⟩ : ∃ m, k = m + 1 + 1 := ⟨k - 2, by omega⟩
    unfold arbourkeep_Short.l0
    have e6 : decide ((i : Int) < 6) = true := decide_eq_true (by omega)
    rw [e6]
    by_cases hl : (i : Int) < (ys.length : Int)
    · rw [if_pos hl]
      unfold arbourkeep_Short.j1
      rw [if_pos rfl, if_pos (by omega), if_pos hl]
      obtain ⟨r0, h0⟩ := head_some (rd_T44 ys i).f0 20 (by omega)
      obtain ⟨r1, h1⟩ := head_some (rd_T44 ys i).f1 30 (by omega)
      have ew : wrap64 ((i : Int) + 1) = ((i + 1 : Nat) : Int) := by unfold wrap64; omega
      rw [h0, Option.bind_some, h1, Option.bind_some, if_pos (by omega), ew]
      exact ih m (i + 1) _ (by omega) (by omega) (by simp; omega) (by omega)
    · rw [if_neg hl]
      unfold arbourkeep_Short.j1
      rw [if_neg (by decide)]
      exact ⟨acc, rfl, by omega⟩
/-- Short: six attributes or less, in memory of its own. -/
theorem short (A : Option Addr) (c : Nat) (xs : List S44) (w : World) (h : k44.C w A xs.length xs ∧ xs.length ≤ c) :
    Calls Try.prog 7 #[.slice A xs.length c] w fun e w' => ∃ v ys, e = .returned v ∧ ys.length ≤ 6 ∧ Kd.R k44 44 w' w.heap.size (fun _ => True) v ys ∧ Below w.heap.size w w' := by
  obtain ⟨r, hr, hl⟩ := short_loop xs 6 20 0 [] rfl (by omega) rfl (by omega)
  refine (arbourkeep_Short.calls 20 A c xs r w h.1 h.2 hr).mono ?_
  rintro e w' ⟨v, rfl, hR, hb⟩
  exact ⟨v, r, rfl, hl, hR, hb⟩
theorem raw_some (a : ByteArray) (sc : Bool) : ∃ r : Int, names_Raw.f 9 a sc = some r ∧ 1 ≤ r ∧ r ≤ 4 := by
  unfold names_Raw.f
  simp only [names_Raw.j0, names_Raw.j1]
  repeat' split
  all_goals first | exact ⟨_, rfl, by omega, by omega⟩
theorem lex1 (a : ByteArray) (A : Option Addr) (c : Nat) (l : List S44) (sc : Bool) (r : Int) (hr : names_Raw.f 9 a sc = some r) (w : World) (h : k44.C w A l.length l ∧ l.length ≤ c) : Calls Try.prog 8 #[.agg #[.int .i64 1, .string a, .slice A l.length c], .bool sc] w fun e w' => e = .returned (.int .i64 r) ∧ Below w.heap.size w w' :=
  context_Lexer.calls 9 1 a A c l sc r w h.1 h.2 (by unfold context_Lexer.f; rw [if_pos rfl, hr]; rfl)
theorem lex2 (a : ByteArray) (A : Option Addr) (c : Nat) (l : List S44) (sc : Bool) (w : World) (h : k44.C w A l.length l ∧ l.length ≤ c) : Calls Try.prog 8 #[.agg #[.int .i64 2, .string a, .slice A l.length c], .bool sc] w fun e w' => e = .returned (.int .i64 1) ∧ Below w.heap.size w w' :=
  context_Lexer.calls 9 2 a A c l sc 1 w h.1 h.2 (by unfold context_Lexer.f; rw [if_neg (by omega)])
/-- Behind 'y := ..': x's and y's structs lie in the blocks X7, X8. -/
def Rel3 (w : World) (X7 : Nat) (h : ByteArray) (v8 : Value) (wx : World) : Prop := ∃ (X8 : Nat) (AS : Option Addr) (cS : Nat) (LS : List S44), v8 = .pointer (some ⟨X8, 0, none⟩) ∧ wx.heap[X8]? = some (.cells #[.int .i64 1, .string h, .slice AS LS.length cS] 24 (0, 0)) ∧ k44.C wx AS LS.length LS ∧ LS.length ≤ cS ∧ wx.heap[X7]? = some (.cells #[.int .i64 1, .string h, .slice none 0 0] 24 (0, 0)) ∧ wx.cell? ⟨w.heap.size, 1, none⟩ = some (.string h) ∧ Below w.heap.size w wx
theorem relA {w wX wn : World} {X7 : Nat} {h : ByteArray} {AS : Option Addr} {cS : Nat} {ys : List S44} (hR : Kd.R k44 44 wn wX.drew.heap.size (fun _ => True) (.slice AS ys.length cS) ys) (hb : Below wX.drew.heap.size wX.drew wn) (g7 : wX.heap[X7]? = some (.cells #[.int .i64 1, .string h, .slice none 0 0] 24 (0, 0))) (x1 : wX.cell? ⟨w.heap.size, 1, none⟩ = some (.string h)) (hX : Below w.heap.size w wX) :
    Rel3 w X7 h (.pointer (some ⟨wn.heap.size, 0, none⟩)) (wn.alloc (.cells #[.int .i64 1, .string h, .slice AS ys.length cS] 24)) := by
  have hr := Kd.R_reads' hR
  have hz : wX.heap.size ≤ wn.heap.size := hb.size
  have g7n : wn.heap[X7]? = _ := (hb.block X7 (blk_lt g7)).trans g7
  have x1n : wn.cell? ⟨w.heap.size, 1, none⟩ = some (.string h) := cellW (W := wX.drew) x1 hb
  exact ⟨wn.heap.size, AS, cS, ys, rfl, heap_alloc_new wn _, Kd.C_alloc hr.2.2 _, hr.2.1, (Below.heap_alloc _ _ _ (blk_lt g7n)).trans g7n, cellW x1n (below_alloc (Below.refl _ _) _), below_alloc (hX.drew.trans (hb.mono hX.size)) _⟩
theorem relB {w wX wn : World} {X7 : Nat} {h : ByteArray} {AS : Option Addr} {cS : Nat} {ys : List S44} (hR : Kd.R k44 44 wn (wX.alloc (.cells #[.int .i64 0, .string ⟨#[]⟩, .slice none 0 0] 24)).heap.size (fun _ => True) (.slice AS ys.length cS) ys) (hb : Below (wX.alloc (.cells #[.int .i64 0, .string ⟨#[]⟩, .slice none 0 0] 24)).heap.size (wX.alloc (.cells #[.int .i64 0, .string ⟨#[]⟩, .slice none 0 0] 24)) wn) (hq : wn.heap[wX.heap.size]? = some (.cells #[.int .i64 0, .string ⟨#[]⟩, .slice none 0 0] 24 (0, 0))) (g7 : wX.heap[X7]? = some (.cells #[.int .i64 1, .string h, .slice none 0 0] 24 (0, 0))) (x1 : wX.cell? ⟨w.heap.size, 1, none⟩ = some (.string h)) (hX : Below w.heap.size w wX) :
    Rel3 w X7 h (.pointer (some ⟨wX.heap.size, 0, none⟩)) (((wn.setCell ⟨wX.heap.size, 0, none⟩ (.int .i64 1)).setCell ⟨wX.heap.size, 1, none⟩ (.string h)).setCell ⟨wX.heap.size, 2, none⟩ (.slice AS ys.length cS)) := by
  have h7 := blk_lt g7
  have h1 := World.block_lt_of_cell? _ _ x1
  have g7a : (wX.alloc (.cells #[.int .i64 0, .string ⟨#[]⟩, .slice none 0 0] 24)).heap[X7]? = _ := (Below.heap_alloc _ _ _ h7).trans g7
  have g7n : wn.heap[X7]? = _ := (hb.block X7 (blk_lt g7a)).trans g7a
  have x1n : wn.cell? ⟨w.heap.size, 1, none⟩ = some (.string h) := cellW (cellW x1 (below_alloc (Below.refl _ _) _)) hb
  have hq1 := blk_set hq 0 (.int .i64 1)
  have hq2 := blk_set hq1 1 (.string h)
  have hq3 := blk_set hq2 2 (.slice AS ys.length cS)
  have hr1 := Kd.R_set hR hq (by decide) 0 (.int .i64 1)
  have hr2 := Kd.R_set hr1 hq1 (by decide) 1 (.string h)
  have hr3 := Kd.R_reads' (Kd.R_set hr2 hq2 (by decide) 2 (.slice AS ys.length cS))
  have n7 : X7 ≠ wX.heap.size := Nat.ne_of_lt h7
  have n1 : w.heap.size ≠ wX.heap.size := Nat.ne_of_lt h1
  have hbw : Below w.heap.size w wn := (below_alloc hX _).trans (hb.mono (below_alloc hX _).size)
  refine ⟨wX.heap.size, AS, cS, ys, rfl, hq3, hr3.2.2, hr3.2.1, blk_far (blk_far (blk_far g7n n7 _) n7 _) n7 _, ?_, ((hbw.setCell hX.size _).setCell hX.size _).setCell hX.size _⟩
  rw [cell_far n1, cell_far n1, cell_far n1]
  exact x1n
set_option maxHeartbeats 8000000 in
set_option maxRecDepth 100000 in
theorem lexers (n1 : Int) (s1 : ByteArray) (A1 : Option Addr) (c1 : Nat) (l1 : List S44) (n2 : Int) (s2 : ByteArray) (A2 : Option Addr) (c2 : Nat) (l2 : List S44) (sc : Bool) (w : World) (_h1 : k44.C w A1 l1.length l1 ∧ l1.length ≤ c1) (h2 : k44.C w A2 l2.length l2 ∧ l2.length ≤ c2) :
    Calls Try.prog 3 #[.agg #[.int .i64 n1, .string s1, .slice A1 l1.length c1], .agg #[.int .i64 n2, .string s2, .slice A2 l2.length c2], .bool sc] w fun e w' => e = .returned (.bool true) ∧ Below w.heap.size w w' := by
  have H2 := hide h2
  clear h2
  go_enter Try.func3, Try.ntmps3
  go_wp2_with fail
  obtain ⟨wX, hX⟩ : ∃ wX, ((w.alloc (.cells #[.int .i64 n1, .string s1, .slice A1 l1.length c1] 24)).alloc (.cells #[.int .i64 n2, .string s2, .slice A2 l2.length c2] 24)) = wX := ⟨_, rfl⟩
  have g1 : wX.heap[w.heap.size]? = some (.cells #[.int .i64 n1, .string s1, .slice A1 l1.length c1] 24 (0, 0)) := by rw [← hX]; exact (Below.heap_alloc _ _ _ (by simp)).trans (heap_alloc_new w _)
  have g2 : wX.heap[w.heap.size + 1]? = some (.cells #[.int .i64 n2, .string s2, .slice A2 l2.length c2] 24 (0, 0)) := by
    have := heap_alloc_new (w.alloc (.cells #[.int .i64 n1, .string s1, .slice A1 l1.length c1] 24)) (.cells #[.int .i64 n2, .string s2, .slice A2 l2.length c2] 24)
    rw [hX] at this
    simpa using this
  have hb : Below w.heap.size w wX := by rw [← hX]; exact below_alloc (below_alloc (Below.refl _ _) _) _
  rw [hX]
  clear hX
  have HB := hide hb
  have G1 := hide g1
  have G2 := hide g2
  have x1 : wX.cell? ⟨w.heap.size, 1, none⟩ = some (.string s1) := cell_of_row wX _ 1 _ _ _ g1
  have x2 : wX.cell? ⟨w.heap.size + 1, 1, none⟩ = some (.string s2) := cell_of_row wX _ 1 _ _ _ g2
  have f1 : wX.frozen? ⟨w.heap.size, 1, none⟩ = false := blk_frozen g1 1
  have f2 : wX.frozen? ⟨w.heap.size + 1, 1, none⟩ = false := blk_frozen g2 1
  clear hb g1 g2
  go_cut [] from 10 to 18 (fun wx => wx.heap[w.heap.size]? = some (.cells #[.int .i64 n1, .string (headL s1), .slice A1 l1.length c1] 24 (0, 0)) ∧ wx.heap[w.heap.size + 1]? = some (.cells #[.int .i64 n2, .string (headL s2), .slice A2 l2.length c2] 24 (0, 0)) ∧ Below w.heap.size w wx)
  case first =>
    go_region_with (first | (go_at_call 6; (with_reducible refine (head s1 _).mono ?_); rintro e wn ⟨rfl, ⟨⟨na, rfl⟩⟩⟩) | (go_at_call 6; (with_reducible refine (head s2 _).mono ?_); rintro e wn ⟨rfl, ⟨⟨nb, rfl⟩⟩⟩))
    all_goals (
      go_wp2_with fail
      go_meet
      refine ⟨?_, ?_, ?_⟩
      · exact blk_far (blk_set (show (wX.drewN _).heap[w.heap.size]? = _ from G1.out) 1 _) (by simp) _
      · exact blk_set (blk_far (show (wX.drewN _).heap[w.heap.size + 1]? = _ from G2.out) (by simp) _) 1 _
      · exact ((pw_below_drewN HB.out _).setCell (Nat.le_refl _) _).setCell (by simp) _)
  case rest =>
    clear x1 x2 f1 f2 G1 G2 HB
    obtain ⟨g1, g2, hb⟩ := hcut
    have HB := hide hb
    have G1 := hide g1
    have G2 := hide g2
    obtain ⟨h, hh⟩ : ∃ h, headL s1 = h := ⟨_, rfl⟩
    rw [hh] at g1 G1
    clear hh
    have x1 : wc.cell? ⟨w.heap.size, 1, none⟩ = some (.string h) := cell_of_row wc _ 1 _ _ _ g1
    clear g1 g2 hb
    have hz1 : w.heap.size + 1 < wc.heap.size := blk_lt G2.out
    go_wp2_with fail
    obtain ⟨wX, hX⟩ : ∃ wX, wc.alloc (.cells #[.int .i64 1, .string h, .slice none 0 0] 24) = wX := ⟨_, rfl⟩
    have hbX : Below wc.heap.size wc wX := by rw [← hX]; exact below_alloc (Below.refl _ _) _
    have g7 : wX.heap[wc.heap.size]? = some (.cells #[.int .i64 1, .string h, .slice none 0 0] 24 (0, 0)) := by rw [← hX]; exact heap_alloc_new wc _
    rw [hX]
    clear hX
    have G7 := hide g7
    have GA := hide ((hbX.block _ (by omega)).trans G1.out)
    have GB := hide ((hbX.block _ hz1).trans G2.out)
    have HBX := hide (HB.out.trans (hbX.mono (by omega)))
    have H2X := hide (show k44.C wX A2 l2.length l2 ∧ l2.length ≤ c2 from ⟨Kd.C_below H2.out.1 HBX.out, H2.out.2⟩)
    have y1 : wX.cell? ⟨w.heap.size, 1, none⟩ = some (.string h) := cell_of_row wX _ 1 _ _ _ GA.out
    have y2 : wX.cell? ⟨w.heap.size + 1, 2, none⟩ = some (.slice A2 l2.length c2) := cell_of_row wX _ 2 _ _ _ GB.out
    have hz7 : wc.heap.size < wX.heap.size := blk_lt g7
    clear g7 hbX x1 G1 G2 HB
    have y1a := cellW y1 (below_alloc (Below.refl wX.heap.size wX) (.cells #[.int .i64 0, .string ⟨#[]⟩, .slice none 0 0] 24))
    have y2a := cellW y2 (below_alloc (Below.refl wX.heap.size wX) (.cells #[.int .i64 0, .string ⟨#[]⟩, .slice none 0 0] 24))
    obtain ⟨X7, hX7⟩ : ∃ X7, wc.heap.size = X7 := ⟨_, rfl⟩
    rw [hX7] at G7 hz7 ⊢
    clear hX7 hz1
    go_cut [8] from 21 to 27 (fun v8 wx => Rel3 w X7 h v8 wx)
    case first =>
      go_region_with (go_at_call 7; (refine (short A2 c2 l2 _ (by exact ⟨Kd.C_below H2X.out.1 (by repeat (first | exact Below.refl _ _ | apply below_alloc | apply Below.drew)), H2X.out.2⟩)).mono ?_); rintro e wn ⟨v, ys, rfl, -, hR, hbn⟩; obtain ⟨AS, cS, rfl, hlS, hCS⟩ := Kd.R_reads hR; have HBN := hide hbn; have y1n : wn.cell? ⟨w.heap.size, 1, none⟩ = some (.string h) := (by first | exact cellW y1 hbn | exact cellW y1a hbn | exact cellW (W := wX.drew) y1 hbn | exact cellW (W := (wX.alloc _).drew) y1a hbn | exact cellW (W := wX.drew.alloc _) y1a hbn); have y1z := cellW y1n (below_alloc (Below.refl wn.heap.size wn) (.cells #[.int .i64 0, .string ⟨#[]⟩, .slice none 0 0] 24)); have HCS := hide hCS; have HLS := hide hlS; have HR := hide hR; (try (have hq : wn.heap[wX.heap.size]? = some (.cells #[.int .i64 0, .string ⟨#[]⟩, .slice none 0 0] 24 (0, 0)) := (HBN.out.block wX.heap.size (by simp)).trans (heap_alloc_new wX _); have HQ := hide hq; have q0 : wn.cell? ⟨wX.heap.size, 0, none⟩ = some (.int .i64 0) := cell_of_row _ _ 0 _ _ _ hq; have q1 : wn.cell? ⟨wX.heap.size, 1, none⟩ = some (.string ⟨#[]⟩) := cell_of_row _ _ 1 _ _ _ hq; have q2 : wn.cell? ⟨wX.heap.size, 2, none⟩ = some (.slice none 0 0) := cell_of_row _ _ 2 _ _ _ hq; have q3 := blk_frozen hq 0; have q4 := blk_frozen hq 1; have q5 := blk_frozen hq 2; clear hq)); clear hR hbn hCS hlS)
      all_goals (
        go_wp2_with fail
        go_meet
        first
        | (have hqq := HQ.out; exact relB HR.out ((show Below (wX.alloc (.cells #[.int .i64 0, .string ⟨#[]⟩, .slice none 0 0] 24)).heap.size (wX.alloc (.cells #[.int .i64 0, .string ⟨#[]⟩, .slice none 0 0] 24)) (wX.alloc (.cells #[.int .i64 0, .string ⟨#[]⟩, .slice none 0 0] 24)).drew from (Below.refl _ _).drew).trans HBN.out) hqq G7.out y1 HBX.out)
        | exact relA HR.out HBN.out G7.out y1 HBX.out)
    case rest =>
      clear y1 y2 y1a y2a G7 GA GB HBX H2X
      obtain ⟨X8, AS, cS, LS, rfl, g8, hCS, hLS, g7, x1, hb⟩ := hcut
      have HB := hide hb
      have G7 := hide g7
      have G8 := hide g8
      have HS := hide (show k44.C wc AS LS.length LS ∧ LS.length ≤ cS from ⟨hCS, hLS⟩)
      clear g7 g8 hb hCS hLS
      go_wp2_with fail
      obtain ⟨r, hr, hr1, hr2⟩ := raw_some h sc
      have CX : ∀ W : World, Calls Try.prog 8 #[.agg #[.int .i64 1, .string h, .slice none 0 0], .bool sc] W fun e w' => e = .returned (.int .i64 r) ∧ Below W.heap.size W w' := fun W => lex1 h none 0 [] sc r hr W ⟨Kd.C_nil _ _, Nat.le_refl _⟩
      have CY : ∀ W : World, k44.C W AS LS.length LS → Calls Try.prog 8 #[.agg #[.int .i64 1, .string h, .slice AS LS.length cS], .bool sc] W fun e w' => e = .returned (.int .i64 r) ∧ Below W.heap.size W w' := fun W hW => lex1 h AS cS LS sc r hr W ⟨hW, HS.out.2⟩
      have CZ : ∀ W : World, Calls Try.prog 8 #[.agg #[.int .i64 2, .string h, .slice none 0 0], .bool sc] W fun e w' => e = .returned (.int .i64 1) ∧ Below W.heap.size W w' := fun W => lex2 h none 0 [] sc W ⟨Kd.C_nil _ _, Nat.le_refl _⟩
      obtain ⟨wY, hY⟩ : ∃ wY, wc.alloc (.cells #[.int .i64 2, .string h, .slice none 0 0] 24) = wY := ⟨_, rfl⟩
      have hbY : Below wc.heap.size wc wY := by rw [← hY]; exact below_alloc (Below.refl _ _) _
      have g9 : wY.heap[wc.heap.size]? = some (.cells #[.int .i64 2, .string h, .slice none 0 0] 24 (0, 0)) := by rw [← hY]; exact heap_alloc_new wc _
      rw [hY]
      clear hY
      obtain ⟨X9, hX9⟩ : ∃ X9, wc.heap.size = X9 := ⟨_, rfl⟩
      rw [hX9] at g9 ⊢
      have g7 := (hbY.block _ (blk_lt G7.out)).trans G7.out
      have g8 := (hbY.block _ (blk_lt G8.out)).trans G8.out
      have hSY := Kd.C_below HS.out.1 hbY
      have HBY := hide (HB.out.trans (hbY.mono HB.out.size))
      have allS : ∀ W : World, Below wY.heap.size wY W → W.cell? ⟨X7, 0, none⟩ = some (.int .i64 1) ∧ W.cell? ⟨X7, 1, none⟩ = some (.string h) ∧ W.cell? ⟨X7, 2, none⟩ = some (.slice none 0 0) ∧ W.cell? ⟨X8, 0, none⟩ = some (.int .i64 1) ∧ W.cell? ⟨X8, 1, none⟩ = some (.string h) ∧ W.cell? ⟨X8, 2, none⟩ = some (.slice AS LS.length cS) ∧ W.cell? ⟨X9, 0, none⟩ = some (.int .i64 2) ∧ W.cell? ⟨X9, 1, none⟩ = some (.string h) ∧ W.cell? ⟨X9, 2, none⟩ = some (.slice none 0 0) ∧ k44.C W AS LS.length LS ∧ Below wY.heap.size wY W :=
        fun W hW => ⟨cellW (cell_of_row wY _ 0 _ _ _ g7) hW, cellW (cell_of_row wY _ 1 _ _ _ g7) hW, cellW (cell_of_row wY _ 2 _ _ _ g7) hW, cellW (cell_of_row wY _ 0 _ _ _ g8) hW, cellW (cell_of_row wY _ 1 _ _ _ g8) hW, cellW (cell_of_row wY _ 2 _ _ _ g8) hW, cellW (cell_of_row wY _ 0 _ _ _ g9) hW, cellW (cell_of_row wY _ 1 _ _ _ g9) hW, cellW (cell_of_row wY _ 2 _ _ _ g9) hW, Kd.C_below hSY hW, hW⟩
      have AS_ := hide allS
      have CX_ := hide CX
      have CY_ := hide CY
      have CZ_ := hide CZ
      clear g7 g8 g9 hSY hbY HB G7 G8 HS x1 allS CX CY CZ hX9 hr
      have hI := AS_.out wY.drew (Below.refl _ _).drew
      go_region_held3 (fun W => W.cell? ⟨X7, 0, none⟩ = some (.int .i64 1) ∧ W.cell? ⟨X7, 1, none⟩ = some (.string h) ∧ W.cell? ⟨X7, 2, none⟩ = some (.slice none 0 0) ∧ W.cell? ⟨X8, 0, none⟩ = some (.int .i64 1) ∧ W.cell? ⟨X8, 1, none⟩ = some (.string h) ∧ W.cell? ⟨X8, 2, none⟩ = some (.slice AS LS.length cS) ∧ W.cell? ⟨X9, 0, none⟩ = some (.int .i64 2) ∧ W.cell? ⟨X9, 1, none⟩ = some (.string h) ∧ W.cell? ⟨X9, 2, none⟩ = some (.slice none 0 0) ∧ k44.C W AS LS.length LS ∧ Below wY.heap.size wY W)
        (first | exact hI | exact AS_.out _ (by assumption) | go_keep)
        (first | (go_at_call 8; (try go_split_ands); (with_reducible refine (CX_.out _).mono ?_); rintro e wn8 ⟨rfl, b8⟩; have b8w := below_step (show Below wY.heap.size wY _ from by assumption) b8) | (go_at_call 8; (try go_split_ands); (with_reducible refine (CY_.out _ (by assumption)).mono ?_); rintro e wn8 ⟨rfl, b8⟩; have b8w := below_step (show Below wY.heap.size wY _ from by assumption) b8) | (go_at_call 8; (try go_split_ands); (with_reducible refine (CZ_.out _).mono ?_); rintro e wn8 ⟨rfl, b8⟩; have b8w := below_step (show Below wY.heap.size wY _ from by assumption) b8) | (go_at_call 9; (try go_split_ands); (with_reducible refine (known _).mono ?_); rintro e wn9 ⟨rfl, b9⟩; have b9w := below_step (show Below wY.heap.size wY _ from by assumption) b9))
      all_goals (
        go_wp2_with fail
        go_ret
        exact ⟨rfl, HBY.out.trans (b9w.mono HBY.out.size)⟩)
end Go.Proofs.Ytpofjfnlchpmbaa.Ctx
