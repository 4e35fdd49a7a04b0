/- The walks of strings.Builder's copyCheck and WriteString at this program: what lies beside the builder's own blocks stays. The walk of tree.Text. The walk of tree.line: a node as a line. The walk of tree.Show. -/
import Derived.Test.YtaponaemgolmoaaTrWalk
import Derived.Shelf.Strings.BuilderF
import Derived.Test.YtaponaemgolmoaaShelf
import Derived.Lib.ItoaLen
import Derived.Lib.AppendIntMem
import Derived.Lib.SmallJoins
import Derived.Test.YtaponaemgolmoaaTrDepth
import Derived.Deep.RegionHeld3
namespace Go.Proofs.Ytaponaemgolmoaa.Tr
open Go.RowKit Go.Proofs.Ytaponaemgolmoaa.PTreeTells Go.Proofs.YtaponaemgolmoaaW.PrintWords Go.Proofs.YtaponaemgolmoaaW.PrintLast
theorem atBelow {T e : TypeId} {B b : Nat} {p : Value} {bs : List Value} {W W' : World} (h : Lib.BuilderAtF T e B b p bs W) (hb : Below W.heap.size W W') : Lib.BuilderAtF T e B b p bs W' := by
  have hlt := h.lt
  obtain ⟨hB, v, hv, hown, hne⟩ := h
  exact ⟨hB, v, (hb.block b hlt).trans hv, hown.kept (row := none) ⟨hb.os, hb.tape, hb.output, hb.size, fun k hk _ => hb.block k hk⟩ (Classical.em _), hne⟩
theorem bldBelow {T e : TypeId} {B b : Nat} {bs : List Value} {W W' : World} (h : Lib.IsBuilderF T e B b bs W) (hb : Below W.heap.size W W') : Lib.IsBuilderF T e B b bs W' :=
  h.elim (fun x => .inl (atBelow x hb)) (fun x => .inr (atBelow x hb))
theorem sizeBld : (Try.prog.info? 53).map (·.size) = some 2 := by kernel_rfl
theorem liesBld : liesAt Try.prog Try.prog.depth 53 (2 / Try.prog.cellsOf 53) 0 53 1 = true := by kernel_rfl
theorem info5B : (Try.prog.info? 5).map (fun i => (i.zero, i.size, i.bytes)) = some (some (.int .u8 0), 1, 1) := by kernel_rfl
theorem Beside.below {b : Nat} {w w1 w2 : World} (h : Beside b w w1) (hb : Below w1.heap.size w1 w2) : Beside b w w2 := fun S cs t hs ht hne => (hb.block _ (blk_lt (h S cs t hs ht hne))).trans (h S cs t hs ht hne)
set_option maxHeartbeats 1000000 in
set_option maxRecDepth 100000 in
theorem copyFresh (b : Nat) (w : World) (h0 : w.cell? ⟨b, 0, none⟩ = some (.pointer none)) (hsh : w.shape? b = some (53, 2)) (hfz : w.frozen? ⟨b, 0, none⟩ = false) :
    Calls Try.prog 55 #[.pointer (some ⟨b, 0, none⟩)] w fun e w' => e = .returned (.tuple #[]) ∧ w' = w.setCell ⟨b, 0, none⟩ (.pointer (some ⟨b, 0, none⟩)) := by
  obtain ⟨j, hj, hjs⟩ := Option.map_eq_some_iff.1 sizeBld
  go_enter Try.func55, Try.ntmps55
  go_wp2
  rw [Lib.run_to_unsafe w ⟨b, 0, none⟩ Try.underlying50 Try.underlying105 hj (by rw [hjs]; decide) hsh (Nat.zero_lt_succ 1)]
  simp only [Result.andThen]
  rw [Oper.upon_value]
  go_wp2
  rw [run_callFunc_extern Try.func69 (by kernel_rfl) (by kernel_rfl) (by kernel_rfl) (e := Extern.AbiNoEscape.same) (by kernel_rfl)]
  rw [Lib.run_noEscape]
  simp only [Result.andThen]
  rw [Oper.upon_value]
  go_wp2
  rw [Lib.run_from_unsafe w ⟨b, 0, none⟩ Try.underlying105 Try.underlying50 hj hsh liesBld]
  simp only [Result.andThen]
  rw [Oper.upon_value]
  go_wp2
  go_end0
  exact ⟨rfl, rfl⟩
set_option maxHeartbeats 1000000 in
set_option maxRecDepth 100000 in
theorem copyUsed (b : Nat) (w : World) (h0 : w.cell? ⟨b, 0, none⟩ = some (.pointer (some ⟨b, 0, none⟩))) :
    Calls Try.prog 55 #[.pointer (some ⟨b, 0, none⟩)] w fun e w' => e = .returned (.tuple #[]) ∧ w' = w := by
  obtain ⟨j, hj, hjs⟩ := Option.map_eq_some_iff.1 sizeBld
  go_enter Try.func55, Try.ntmps55
  go_wp2
  rw [Lib.run_neq_ptr_same w _ Try.underlying50 hj]
  go_wp2
  go_end0
  exact ⟨rfl, rfl⟩
theorem copyCheck (B b : Nat) (bs : List Value) (w : World) (h : Lib.IsBuilderF 53 5 B b bs w) :
    Calls Try.prog 55 #[.pointer (some ⟨b, 0, none⟩)] w fun e w' => e = .returned (.tuple #[]) ∧ (Lib.BuilderAtF 53 5 B b (.pointer (some ⟨b, 0, none⟩)) bs w' ∧ Below B w w') ∧ Beside b w w' := by
  rcases h with h | h
  · refine (copyFresh b w h.cell0 h.shape h.frozen0).mono ?_
    rintro e w' ⟨rfl, rfl⟩
    exact ⟨rfl, ⟨h.used _, (Below.refl B w).setCell (p := ⟨b, 0, none⟩) h.1 _⟩, (Beside.refl b w).set 0 _⟩
  · refine (copyUsed b w h.cell0).mono ?_
    rintro e w' ⟨rfl, rfl⟩
    exact ⟨rfl, ⟨h, Below.refl B _⟩, Beside.refl b _⟩
set_option maxHeartbeats 2000000 in
set_option maxRecDepth 100000 in
theorem writeString (B b : Nat) (bs : List Value) (s : ByteArray) (w : World) (h : Lib.IsBuilderF 53 5 B b bs w) (hlen : bs.length + s.size ≤ 140737488355328) (hBw : B ≤ w.heap.size) :
    Calls Try.prog 27 #[.pointer (some ⟨b, 0, none⟩), .string s] w fun e w' => e = .returned (.tuple #[.int .i64 s.size, .nilIface]) ∧ (Lib.BuilderAtF 53 5 B b (.pointer (some ⟨b, 0, none⟩)) (bs ++ Lib.strCells s) w' ∧ Below B w w') ∧ Beside b w w' := by
  obtain ⟨i0, hi, hz0, hz1, hz2⟩ := info_parts info5B
  go_enter Try.func27, Try.ntmps27
  go_wp2_with (go_at_call 55; refine (copyCheck B b bs _ h).mono ?_)
  rintro e w1 ⟨rfl, ⟨h1, hb1⟩, hbs1⟩
  obtain ⟨hB, v, hbk, hown, hne⟩ := h1
  have c0 : w1.cell? ⟨b, 0, none⟩ = some (.pointer (some ⟨b, 0, none⟩)) := by rw [Lib.cell_of_heap hbk]; rfl
  have c1 : w1.cell? ⟨b, 1, none⟩ = some v := by rw [Lib.cell_of_heap hbk]; rfl
  have HBS1 := hide hbs1
  clear hbs1
  go_wp2_with (at_builtin; refine Lib.wpList_append_own_stringF _ rfl _ _ 51 9 rfl B 5 i0 Try.underlying51 Try.underlying9 hi hz0 hz1 hz2 _ _ _ rfl hown s rfl ?c3 ?c4 ?c5 ?_)
  case c3 => unfold maxLen; omega
  case c4 => omega
  case c5 => have := hb1.size; omega
  intro v' w2 hown' hgrow _
  have hlt : b < w1.heap.size := by
    rcases Nat.lt_or_ge b w1.heap.size with h' | h'
    · exact h'
    · simp [Array.getElem?_eq_none h'] at hbk
  have hb2 : w2.heap[b]? = some (.cells #[.pointer (some ⟨b, 0, none⟩), v] 53 (0, 0)) := by
    rw [hgrow.block b hlt (fun e => hne e.symm)]
    exact hbk
  have d0 : w2.cell? ⟨b, 0, none⟩ = some (.pointer (some ⟨b, 0, none⟩)) := by rw [Lib.cell_of_heap hb2]; rfl
  have d1 : w2.cell? ⟨b, 1, none⟩ = some v := by rw [Lib.cell_of_heap hb2]; rfl
  have f1 : w2.frozen? ⟨b, 1, none⟩ = false := Lib.frozen_of_heap hb2 1
  obtain ⟨ao, n', cap, rfl⟩ : ∃ ao n' cap, v' = .slice ao n' cap := by
    rcases hown'.2 with ⟨hv, _⟩ | ⟨g, cap, cur, fz, hv, _⟩
    · exact ⟨_, _, _, hv⟩
    · exact ⟨_, _, _, hv⟩
  have HBS2 := hide (show Beside b w w2 from fun S cs t hs ht hne => by
    have h1 := HBS1.out S cs t hs ht hne
    refine (hgrow.block S (blk_lt h1) (fun e => ?_)).trans h1
    rcases hown.2 with ⟨hv, _⟩ | ⟨g, cap, cur, fz, hv, hh⟩
    · rw [hv] at e; simp [Value.ownBlock] at e
    · rw [hv] at e
      have e' : some S = some g := e
      injection e' with e'
      subst e'
      obtain ⟨-, hh, -⟩ := hh
      rw [h1] at hh
      injection hh with hh
      injection hh with _ hh _
      exact ht hh)
  go_wp2
  go_ret2
  refine ⟨rfl, ⟨?_, ?_⟩, HBS2.out.set 1 _⟩
  · exact Lib.BuilderAtF.put (T := 53) (e := 5) hB hb2 (bs' := bs ++ Lib.strCells s) (by simpa [Lib.strCells_length] using hown') (by decide)
  · exact (hb1.grown hgrow (by have := hb1.size; omega) (fun k hk => (hown.lt k hk).1)).setCell (p := ⟨b, 1, none⟩) hB _
end Go.Proofs.Ytaponaemgolmoaa.Tr
namespace Go.Proofs.Ytaponaemgolmoaa.Tr
open Go.RowKit Go.Proofs.Ytaponaemgolmoaa.PTreeTells Go.Proofs.YtaponaemgolmoaaW.PrintWords Go.Proofs.YtaponaemgolmoaaW.PrintLast
set_option linter.unusedVariables false
set_option linter.unusedSimpArgs false
theorem atStab {b : Nat} {p : Value} {bs : List Value} {W W' : World} (h : Lib.BuilderAtF 53 5 b b p bs W) (ho : Own5 b W W') : Lib.BuilderAtF 53 5 b b p bs W' := by
  obtain ⟨hB, v, hv, hown, hne⟩ := h
  refine ⟨hB, v, (ho.2 b (blk_lt hv) (.inl rfl)).trans hv, ?_, hne⟩
  obtain ⟨h1, h2⟩ := hown
  refine ⟨h1, ?_⟩
  rcases h2 with h2 | ⟨g, cap, cur, fz, e, hg, hh, r⟩
  · exact .inl h2
  · exact .inr ⟨g, cap, cur, fz, e, hg, (ho.2 g (blk_lt hh) (.inr ⟨cur, fz, hh⟩)).trans hh, r⟩
theorem bldStab {b : Nat} {bs : List Value} {W W' : World} (h : Lib.IsBuilderF 53 5 b b bs W) (ho : Own5 b W W') : Lib.IsBuilderF 53 5 b b bs W' :=
  h.elim (fun x => .inl (atStab x ho)) (fun x => .inr (atStab x ho))
/-- A builder that holds what has been said of the nodes so far. -/
def BldIn (b : Nat) (f : S26 × Nat → List UInt8) (done : List (S26 × Nat)) (W : World) : Prop := Lib.IsBuilderF 53 5 b b (Lib.byteCells (done.flatMap f)) W ∧ b < W.heap.size
theorem BldIn.stab {b : Nat} {f : S26 × Nat → List UInt8} {done : List (S26 × Nat)} {W W' : World} (h : BldIn b f done W) (ho : Own5 b W W') : BldIn b f done W' := ⟨bldStab h.1 ho, Nat.lt_of_lt_of_le h.2 ho.1⟩
theorem pre_part {α : Type} {f : S26 × Nat → List α} {done L : List (S26 × Nat)} {p : S26 × Nat} (h : ∃ rest, done ++ p :: rest = L) : (done.flatMap f).length + (f p).length ≤ (L.flatMap f).length := by
  obtain ⟨rest, rfl⟩ := h
  rw [List.flatMap_append, List.flatMap_cons, List.length_append, List.length_append]
  omega
def textF (p : S26 × Nat) : List UInt8 := if p.1.f0 = 4 then p.1.f4.data.toList else []
set_option maxHeartbeats 2000000 in
set_option maxRecDepth 100000 in
theorem see48 (b : Nat) (w0 : World) (t : S26) (hb : w0.heap.size ≤ b) (hN : ((pre t 1).flatMap textF).length ≤ 1000000000000) : SeeOk 48 #[.pointer (some ⟨b, 0, none⟩)] b (BldIn b textF) (fun _ => true) w0 t := by
  intro done x d ad W hrest hP hT hd hsz
  have hlen := pre_part (f := textF) hrest
  have b1 := below_alloc (Below.refl W.heap.size W) (.cells #[.pointer (some ad), .int .i64 (d : Int)] 57)
  have hgn := heap_alloc_new W (.cells #[.pointer (some ad), .int .i64 (d : Int)] 57)
  have hP1 := hP.stab (Own5.of_below b1)
  have hT1 := hT.below b1
  obtain ⟨w1, hw1⟩ : ∃ y, W.alloc (.cells #[.pointer (some ad), .int .i64 (d : Int)] 57) = y := ⟨_, rfl⟩
  rw [hw1] at b1 hP1 hT1 hgn
  have HW1 := hide hw1
  have d0 : w1.cell? ⟨W.heap.size, 0, none⟩ = some (.pointer (some ad)) := cell_of_row _ _ 0 _ _ _ hgn
  have HB1 := hide b1
  have hbW : b < W.heap.size := hP.2
  obtain ⟨hbl, hbs⟩ := hP1
  have HBL := hide hbl
  have hfl : (done ++ [(x, d)]).flatMap textF = done.flatMap textF ++ textF (x, d) := by simp
  have HFL := hide hfl
  obtain ⟨A3, c3, A5, c5, h0, h1, h2, h3, h4, h5, l3, g3, l5, g5⟩ := hT1
  obtain ⟨x0, x1, x2, x3, x4, x5⟩ := x
  dsimp only at h0 h1 h2 h3 h4 h5
  have HSZ := hide hsz
  have HBG := hide hb
  have hbs' : b < w1.heap.size := hbs
  clear hrest hP hT hw1 b1 hgn hbl hfl l3 g3 l5 g5 h1 h2 h3 h5 hsz hb hbs
  show Calls Try.prog 48 #[.agg #[.pointer (some ad), .int .i64 (d : Int)], .pointer (some ⟨b, 0, none⟩)] W _
  by_cases hk : x0 = 4
  · subst hk
    have hft : textF (⟨4, x1, x2, x3, x4, x5⟩, d) = x4.data.toList := by unfold textF; rw [if_pos rfl]
    have hl4 : x4.data.toList.length = x4.size := by rw [Array.length_toList]; rfl
    rw [hft, hl4] at hlen
    have hlen2 : (Lib.byteCells (done.flatMap textF)).length + x4.size ≤ 140737488355328 := by rw [Lib.byteCells_length]; omega
    have HWS := hide (writeString b b (Lib.byteCells (done.flatMap textF)) x4 w1 HBL.out hlen2 (Nat.le_of_lt hbs'))
    have HFT := hide hft
    clear hft hl4 hlen hlen2
    go_enter Try.func48, Try.ntmps48
    go_upto_region 1 with fail
    rw [HW1.out]
    go_wp2_with fail
    refine HWS.out.mono ?_
    rintro e w2 ⟨rfl, ⟨hbl2, hb2⟩, hbd2⟩
    dsimp only
    have HBL2 := hide hbl2
    have HB2 := hide hb2
    have HBD2 := hide hbd2
    clear hbl2 hb2 hbd2 HWS
    go_wp2_with fail
    go_ret
    refine ⟨rfl, ⟨?_, Nat.lt_of_lt_of_le hbs' HB2.out.size⟩, (HB1.out.mono HSZ.out).trans (HB2.out.mono HBG.out), (Beside.of_below HB1.out).trans HBD2.out⟩
    rw [HFL.out, HFT.out, Lib.byteCells_append, ← Lib.strCells_eq]
    exact .inr HBL2.out
  · have hft : textF (⟨x0, x1, x2, x3, x4, x5⟩, d) = [] := by unfold textF; rw [if_neg hk]
    have HFT := hide hft
    clear hft hlen
    go_enter Try.func48, Try.ntmps48
    go_upto_region 1 with fail
    rw [HW1.out]
    go_wp2_with fail
    go_ret
    refine ⟨rfl, ⟨?_, hbs'⟩, HB1.out.mono HSZ.out, Beside.of_below HB1.out⟩
    rw [HFL.out, HFT.out, List.append_nil]
    exact HBL.out
theorem enter48 (args : Array Value) (W : World) : (callFunc 48 args).run Try.prog W = .ok (.enter 48 args) W := enterF Try.func48 (by kernel_rfl) (by kernel_rfl) args W
set_option maxHeartbeats 2000000 in
set_option maxRecDepth 100000 in
theorem ttext (t : S26) (A3 : Option Addr) (c3 : Nat) (A5 : Option Addr) (c5 : Nat) (w : World) (l3 : t.f3.length ≤ c3) (g3 : k33.C w A3 t.f3.length t.f3) (l5 : t.f5.length ≤ c5) (g5 : k26.C w A5 t.f5.length t.f5) (hN : (pre t 1).length ≤ 1000000000) (hM : ((pre t 1).flatMap textF).length ≤ 1000000000000) :
    Calls Try.prog 20 #[.agg #[.int .i64 t.f0, .int .i64 t.f1, .string t.f2, .slice A3 t.f3.length c3, .string t.f4, .slice A5 t.f5.length c5]] w fun e w' => e = .returned (.string ⟨((pre t 1).flatMap textF).toArray⟩) ∧ Below w.heap.size w w' := by
  have hgn := heap_alloc_new w (.cells #[.int .i64 t.f0, .int .i64 t.f1, .string t.f2, .slice A3 t.f3.length c3, .string t.f4, .slice A5 t.f5.length c5] 26)
  have b1 := below_alloc (Below.refl w.heap.size w) (.cells #[.int .i64 t.f0, .int .i64 t.f1, .string t.f2, .slice A3 t.f3.length c3, .string t.f4, .slice A5 t.f5.length c5] 26)
  have ht := TAt_blk hgn l3 (Kd.C_below g3 b1) l5 (Kd.C_below g5 b1)
  obtain ⟨w1, hw1⟩ : ∃ y, w.alloc (.cells #[.int .i64 t.f0, .int .i64 t.f1, .string t.f2, .slice A3 t.f3.length c3, .string t.f4, .slice A5 t.f5.length c5] 26) = y := ⟨_, rfl⟩
  rw [hw1] at hgn b1 ht
  have hF := Lib.fresh_isBuilder 53 5 w1
  have b2 := below_alloc (Below.refl w1.heap.size w1) (.cells #[.pointer none, .slice none 0 0] 53)
  have hs2 : (w1.alloc (.cells #[.pointer none, .slice none 0 0] 53)).heap.size = w1.heap.size + 1 := by simp
  obtain ⟨w2, hw2⟩ : ∃ y, w1.alloc (.cells #[.pointer none, .slice none 0 0] 53) = y := ⟨_, rfl⟩
  rw [hw2] at hF b2 hs2
  have hs1 : w1.heap.size = w.heap.size + 1 := by rw [← hw1]; simp
  have hbs : w1.heap.size < w2.heap.size := by omega
  have hP0 : BldIn w1.heap.size textF [] w2 := ⟨Lib.IsBuilderF.of hF, hbs⟩
  have hS := see48 w1.heap.size w1 t (Nat.le_refl _) hM
  have HWALK := hide (walkC 48 #[.pointer (some ⟨w1.heap.size, 0, none⟩)] w1.heap.size (BldIn w1.heap.size textF) (fun _ => true) w1 w2 ⟨w.heap.size, 0, none⟩ t ht hN b2 hbs hP0 enter48 (fun _ _ _ h ho => h.stab ho) hS)
  have HW1 := hide hw1
  have HW2 := hide hw2
  have HB := hide (below_step b1 b2)
  have HSZ := hide (show w.heap.size ≤ w1.heap.size from b1.size)
  obtain ⟨L, hL⟩ : ∃ L, pre t 1 = L := ⟨_, rfl⟩
  rw [hL, hs1] at HWALK
  rw [hL]
  obtain ⟨a0, a1, a2, a3, a4, a5⟩ := t
  dsimp only at HW1 ⊢
  clear hs1 hP0 hS hbs hgn b1 ht hw1 hF b2 hs2 hw2 g3 g5 l3 l5 hN hM hL
  go_enter Try.func20, Try.ntmps20
  go_upto_region 2 with fail
  rw [HW1.out, HW2.out]
  go_wp2_with fail
  refine HWALK.out.mono ?_
  rintro e w3 ⟨hb3, rfl, hP⟩
  have hall : L.all (fun _ => true) = true := by simp
  obtain ⟨hbl, hbz⟩ := hP hall
  have HST := hide (Try.Builder_String_any_f (w.heap.size + 1) (w.heap.size + 1) (L.flatMap textF) w3 hbl (Nat.le_of_lt hbz))
  have HB3 := hide (HB.out.trans (hb3.mono HSZ.out))
  have HZ := hide (show w.heap.size ≤ w.heap.size + 1 from by omega)
  rw [hall]
  clear hb3 hP hall HWALK hbl hbz
  go_wp2_with fail
  refine HST.out.mono ?_
  rintro e w4 ⟨rfl, -, hb4⟩
  dsimp only
  have HB4 := hide (HB3.out.trans (hb4.mono HZ.out))
  clear hb4 HST
  go_wp2_with fail
  go_ret
  exact ⟨rfl, HB4.out⟩
end Go.Proofs.Ytaponaemgolmoaa.Tr
namespace Go.Proofs.Ytaponaemgolmoaa.Tr
open Go.RowKit Go.Proofs.Ytaponaemgolmoaa.PTreeTells Go.Proofs.YtaponaemgolmoaaW.PrintWords Go.Proofs.YtaponaemgolmoaaW.PrintLast
set_option linter.unusedVariables false
set_option linter.unusedSimpArgs false
def bts (s : ByteArray) : List UInt8 := s.data.toList
theorem bts_app (a b : ByteArray) : bts (a ++ b) = bts a ++ bts b := by
  unfold bts
  rw [ByteArray.data_append, Array.toList_append]
theorem bts_size (a : ByteArray) : (bts a).length = a.size := by unfold bts; rw [Array.length_toList]; rfl
theorem of_bts {a : ByteArray} {l : List UInt8} (h : bts a = l) : a = ⟨l.toArray⟩ := by
  apply ByteArray.ext
  rw [← h]
  unfold bts
  simp
def segA (x : S33) : List UInt8 := [32] ++ bts x.f0 ++ [61, 34] ++ bts x.f1 ++ [34]
def elemH (x : S26) : List UInt8 := [60] ++ (if x.f1 = 2 then [115, 118, 103, 58] else []) ++ bts x.f2
/-- A node as a line. -/
def lineL (x : S26) : List UInt8 :=
  if x.f0 = 2 then [60, 33] ++ bts x.f2 ++ [62]
  else if x.f0 = 3 then elemH x ++ x.f3.flatMap segA ++ [62]
  else if x.f0 = 4 then [34] ++ bts x.f4 ++ [34]
  else if x.f0 = 5 then [60, 33, 45, 45, 32] ++ bts x.f4 ++ [32, 45, 45, 62]
  else if x.f0 = 6 then [99, 111, 110, 116, 101, 110, 116]
  else [63]
theorem seg_take (l : List S33) (k : Nat) (h : k < l.length) : (l.take (k + 1)).flatMap segA = (l.take k).flatMap segA ++ segA l[k] := by
  rw [List.take_succ_eq_append_getElem h, List.flatMap_append]
  simp
theorem seg_len (l : List S33) (k : Nat) (h : k ≤ l.length) : ((l.take k).flatMap segA).length ≤ (l.flatMap segA).length := by
  have : l.flatMap segA = (l.take k).flatMap segA ++ (l.drop k).flatMap segA := by rw [← List.flatMap_append, List.take_append_drop]
  rw [this, List.length_append]
  omega
set_option maxHeartbeats 8000000 in
set_option maxRecDepth 100000 in
theorem line_no (ad : Addr) (x : S26) (w : World) (hT : TAt w ad x) (hk : x.f0 ≠ 3) (hlen : (lineL x).length ≤ 1000000000000) :
    Calls Try.prog 29 #[.pointer (some ad)] w fun e w' => e = .returned (.string ⟨(lineL x).toArray⟩) ∧ Below w.heap.size w w' := by
  obtain ⟨A3, c3, A5, c5, h0, h1, h2, h3, h4, h5, l3, g3, l5, g5⟩ := hT
  obtain ⟨x0, x1, x2, x3, x4, x5⟩ := x
  dsimp only at h0 h1 h2 h3 h4 h5 hk
  clear l3 g3 l5 g5 h1 h3 h5
  by_cases k2 : x0 = 2
  · subst k2
    have hL : lineL ⟨2, x1, x2, x3, x4, x5⟩ = [60, 33] ++ bts x2 ++ [62] := rfl
    rw [hL] at hlen ⊢
    have hz : x2.size ≤ 1000000000000 := by rw [List.length_append, List.length_append, bts_size] at hlen; omega
    clear hL hlen
    go_enter Try.func29, Try.ntmps29
    go_wp2_with fail
    go_ret
    exact ⟨congrArg (fun s => Ending.returned (Value.string s)) (of_bts (by simp only [bts_app]; rfl)), Below.refl _ _⟩
  by_cases k4 : x0 = 4
  · subst k4
    have hL : lineL ⟨4, x1, x2, x3, x4, x5⟩ = [34] ++ bts x4 ++ [34] := rfl
    rw [hL] at hlen ⊢
    have hz : x4.size ≤ 1000000000000 := by rw [List.length_append, List.length_append, bts_size] at hlen; omega
    clear hL hlen
    go_enter Try.func29, Try.ntmps29
    go_wp2_with fail
    go_ret
    exact ⟨congrArg (fun s => Ending.returned (Value.string s)) (of_bts (by simp only [bts_app]; rfl)), Below.refl _ _⟩
  by_cases k5 : x0 = 5
  · subst k5
    have hL : lineL ⟨5, x1, x2, x3, x4, x5⟩ = [60, 33, 45, 45, 32] ++ bts x4 ++ [32, 45, 45, 62] := rfl
    rw [hL] at hlen ⊢
    have hz : x4.size ≤ 1000000000000 := by rw [List.length_append, List.length_append, bts_size] at hlen; omega
    clear hL hlen
    go_enter Try.func29, Try.ntmps29
    go_wp2_with fail
    go_ret
    exact ⟨congrArg (fun s => Ending.returned (Value.string s)) (of_bts (by simp only [bts_app]; rfl)), Below.refl _ _⟩
  by_cases k6 : x0 = 6
  · subst k6
    have hL : lineL ⟨6, x1, x2, x3, x4, x5⟩ = [99, 111, 110, 116, 101, 110, 116] := rfl
    rw [hL]
    clear hL hlen
    go_enter Try.func29, Try.ntmps29
    go_wp2_with fail
    go_ret
    exact ⟨rfl, Below.refl _ _⟩
  · have hL : lineL ⟨x0, x1, x2, x3, x4, x5⟩ = [63] := by unfold lineL; rw [if_neg k2, if_neg hk, if_neg k4, if_neg k5, if_neg k6]
    rw [hL]
    have b2 : (x0 == 2) = false := beq_eq_false_iff_ne.2 k2
    have b3 : (x0 == 3) = false := beq_eq_false_iff_ne.2 hk
    have b4 : (x0 == 4) = false := beq_eq_false_iff_ne.2 k4
    have b5 : (x0 == 5) = false := beq_eq_false_iff_ne.2 k5
    have b6 : (x0 == 6) = false := beq_eq_false_iff_ne.2 k6
    clear hL hlen
    go_enter Try.func29, Try.ntmps29
    go_wp2_with fail
    go_ret
    exact ⟨rfl, Below.refl _ _⟩
/-- A builder of the call's own, in block b, all else as it was. -/
def Bl (w : World) (b : Nat) (bs : List UInt8) (W : World) : Prop := Lib.IsBuilderF 53 5 b b (Lib.byteCells bs) W ∧ Below w.heap.size w W ∧ b < W.heap.size ∧ w.heap.size ≤ b
def WsP (w : World) (b : Nat) (bs : List UInt8) (e : Ending) (w' : World) : Prop := ∃ n, e = .returned (.tuple #[.int .i64 n, .nilIface]) ∧ Bl w b bs w'
theorem Bl.write {w W : World} {b : Nat} {bs : List UInt8} (h : Bl w b bs W) (s : ByteArray) (hl : bs.length + s.size ≤ 10000000000000) : Calls Try.prog 27 #[.pointer (some ⟨b, 0, none⟩), .string s] W (WsP w b (bs ++ bts s)) := by
  obtain ⟨h1, h2, h3, h4⟩ := h
  refine (writeString b b (Lib.byteCells bs) s W h1 (by rw [Lib.byteCells_length]; omega) (Nat.le_of_lt h3)).mono ?_
  rintro e w' ⟨rfl, ⟨hb, hbl⟩, -⟩
  refine ⟨_, rfl, ?_, h2.trans (hbl.mono h4), Nat.lt_of_lt_of_le h3 hbl.size, h4⟩
  rw [Lib.byteCells_append, show Lib.byteCells (bts s) = Lib.strCells s from (Lib.strCells_eq s).symm]
  exact .inr hb
theorem Bl.below {w W W' : World} {b : Nat} {bs : List UInt8} (h : Bl w b bs W) (hb : Below W.heap.size W W') : Bl w b bs W' :=
  ⟨bldStab h.1 (Own5.of_below hb), h.2.1.trans (hb.mono h.2.1.size), Nat.lt_of_lt_of_le h.2.2.1 hb.size, h.2.2.2⟩
set_option maxHeartbeats 8000000 in
set_option maxRecDepth 100000 in
theorem line_el (ad : Addr) (x : S26) (w : World) (hT : TAt w ad x) (hk : x.f0 = 3) (hlen : (lineL x).length ≤ 1000000000000) :
    Calls Try.prog 29 #[.pointer (some ad)] w fun e w' => e = .returned (.string ⟨(lineL x).toArray⟩) ∧ Below w.heap.size w w' := by
  have hadb : ad.block < w.heap.size := by
    obtain ⟨_, _, _, _, h, -⟩ := hT
    exact World.block_lt_of_cell? _ _ h
  obtain ⟨A3, c3, A5, c5, h0, h1, h2, h3, h4, h5, l3, g3, l5, g5⟩ := hT
  obtain ⟨x0, x1, x2, x3, x4, x5⟩ := x
  dsimp only at h0 h1 h2 h3 h4 h5 hk g3 l3
  subst hk
  have hL : lineL ⟨3, x1, x2, x3, x4, x5⟩ = elemH ⟨3, x1, x2, x3, x4, x5⟩ ++ x3.flatMap segA ++ [62] := rfl
  rw [hL] at hlen ⊢
  have hm3 := g3.2.1
  have HG3 := hide g3
  have hE : elemH ⟨3, x1, x2, x3, x4, x5⟩ = [60] ++ (if x1 = 2 then [115, 118, 103, 58] else []) ++ bts x2 := rfl
  have hz2 : x2.size + (x3.flatMap segA).length ≤ 1000000000000 := by
    rw [hE] at hlen
    simp only [List.length_append, bts_size] at hlen
    omega
  have HZ2 := hide hz2
  have HH2 := hide h2
  have HH3 := hide h3
  obtain ⟨HD, hHD⟩ : ∃ l, elemH ⟨3, x1, x2, x3, x4, x5⟩ = l := ⟨_, rfl⟩
  rw [hHD] at hE hlen ⊢
  have HHD := hide hE
  have hlh : HD.length + (x3.flatMap segA).length + 1 ≤ 1000000000000 := by simp only [List.length_append, List.length_singleton] at hlen; omega
  have HLH := hide hlh
  have HADB := hide hadb
  have hF := Lib.fresh_isBuilder 53 5 w
  have b1 := below_alloc (Below.refl w.heap.size w) (.cells #[.pointer none, .slice none 0 0] 53)
  have hs1 : (w.alloc (.cells #[.pointer none, .slice none 0 0] 53)).heap.size = w.heap.size + 1 := by simp
  have hBl : Bl w w.heap.size [] (w.alloc (.cells #[.pointer none, .slice none 0 0] 53)) := ⟨Lib.IsBuilderF.of hF, b1, by omega, Nat.le_refl _⟩
  have HB0 := hide hBl
  have h1w := h1
  obtain ⟨w1, hw1⟩ : ∃ y, w.alloc (.cells #[.pointer none, .slice none 0 0] 53) = y := ⟨_, rfl⟩
  rw [hw1] at HB0
  have HW1 := hide hw1
  clear hL hlen hE hHD hz2 l3 g3 l5 g5 h2 h3 h4 h5 hlh hadb hF b1 hs1 hBl hw1
  go_enter Try.func29, Try.ntmps29
  go_upto_region 6 with fail
  rw [HW1.out]
  go_wp2_with fail
  refine (HB0.out.write ⟨#[60]⟩ (by decide)).mono ?_
  rintro e w2 ⟨n2, rfl, hbl2⟩
  dsimp only
  have HB2 := hide hbl2
  have h1r : w2.cell? ⟨ad.block, ad.off + 1, none⟩ = some (.int .i64 x1) := (hbl2.2.1.cell (p := ⟨ad.block, ad.off + 1, none⟩) HADB.out).trans h1w
  clear hbl2 HB0
  go_upto_if 25 with fail
  go_cut [] from 6 to 70 (fun wx => Bl w w.heap.size ([60] ++ (if x1 = 2 then [115, 118, 103, 58] else [])) wx)
  case first =>
    by_cases hx1 : x1 = 2
    · subst hx1
      have HWR := hide (HB2.out.write ⟨#[115, 118, 103, 58]⟩ (by decide))
      go_wp2_with fail
      refine HWR.out.mono ?_
      rintro e w3 ⟨n3, rfl, hbl3⟩
      dsimp only
      have HB3 := hide hbl3
      clear hbl3 HWR
      go_wp2_with fail
      go_meet
      exact HB3.out
    · have hxb : (x1 == 2) = false := beq_eq_false_iff_ne.2 hx1
      go_wp2_with fail
      go_meet
      rw [if_neg hx1]
      exact HB2.out
  case rest =>
    have HB3 := hide hcut
    have h2r : wc.cell? ⟨ad.block, ad.off + 2, none⟩ = some (.string x2) := (HB3.out.2.1.cell (p := ⟨ad.block, ad.off + 2, none⟩) HADB.out).trans HH2.out
    have HWR := hide (HB3.out.write x2 (by have := HZ2.out; simp only [List.length_append, List.length_singleton]; split <;> simp <;> omega))
    rw [← HHD.out] at HWR
    clear hcut HB2 h1r
    go_wp2_with fail
    refine HWR.out.mono ?_
    rintro e w4 ⟨n4, rfl, hbl4⟩
    dsimp only
    have HB4 := hide hbl4
    have h3r : w4.cell? ⟨ad.block, ad.off + 3, none⟩ = some (.slice A3 x3.length c3) := (hbl4.2.1.cell (p := ⟨ad.block, ad.off + 3, none⟩) HADB.out).trans HH3.out
    clear hbl4 HWR HB3 h2r
    obtain ⟨n, hn⟩ : ∃ n, x3.length = n := ⟨_, rfl⟩
    rw [hn] at h3r hm3
    have HN := hide hn
    clear hn
    go_wp2_with fail
    go_loopw [37] (fun i wr => ∃ k : Nat, k ≤ n ∧ i = .int .i64 (k : Int) ∧ Aside0 (Bl w w.heap.size (HD ++ (x3.take k).flatMap segA) wr)) (fun i _ => n - (intOf i).toNat)
    case atStart => exact ⟨0, Nat.zero_le _, rfl, ⟨by rw [List.take_zero, List.flatMap_nil, List.append_nil]; exact HB4.out⟩⟩
    case round =>
      clear HB4 h3r
      obtain ⟨k, hkn, rfl, hbr⟩ := hrel
      have HBr := hide hbr.out
      clear hbr
      by_cases hlt : k < n
      · have hkl : k < x3.length := by rw [HN.out]; exact hlt
        obtain ⟨ax, hA3, e0, e1⟩ := at_T33 HG3.out (k : Int) (by omega) (by rw [HN.out]; omega)
        rw [Int.toNat_natCast] at e0 e1
        have hxx : rd_T33 x3 (k : Int) = x3[k] := by
          unfold rd_T33
          rw [Int.toNat_natCast, List.getD_eq_getElem?_getD, List.getElem?_eq_getElem hkl]
          rfl
        have hst := seg_take x3 k hkl
        have hln := seg_len x3 (k + 1) (by omega)
        rw [hst, List.length_append] at hln
        rw [hxx] at e0 e1
        obtain ⟨⟨a, b⟩, hx'⟩ : ∃ y, x3[k] = y := ⟨_, rfl⟩
        rw [hx'] at e0 e1 hst hln
        dsimp only at e0 e1
        have e0 := cellW e0 HBr.out.2.1
        have e1 := cellW e1 HBr.out.2.1
        subst hA3
        have hsz : (HD ++ (x3.take k).flatMap segA).length + (1 + a.size + 2 + b.size + 1) ≤ 1000000000000 := by
          have h1 := HLH.out
          have h2 : (segA ⟨a, b⟩).length = 1 + a.size + 2 + b.size + 1 := by unfold segA; simp only [List.length_append, List.length_cons, List.length_nil, bts_size]
          rw [List.length_append]
          omega
        have hst2 : HD ++ (x3.take (k + 1)).flatMap segA = (HD ++ (x3.take k).flatMap segA) ++ segA ⟨a, b⟩ := by rw [hst, List.append_assoc]
        have HST2 := hide hst2
        have HSZ := hide hsz
        have hgn := heap_alloc_new wr (.cells #[.string a, .string b] 33)
        have HBL2 := hide (HBr.out.below (below_alloc (Below.refl wr.heap.size wr) (.cells #[.string a, .string b] 33)))
        obtain ⟨w5, hw5⟩ : ∃ y, wr.alloc (.cells #[.string a, .string b] 33) = y := ⟨_, rfl⟩
        rw [hw5] at hgn HBL2
        obtain ⟨g, hg⟩ : ∃ y, wr.heap.size = y := ⟨_, rfl⟩
        rw [hg] at hgn
        have HW5 := hide hw5
        have HG := hide hg
        have d0 : w5.cell? ⟨g, 0, none⟩ = some (.string a) := cell_of_row _ _ 0 _ _ _ hgn
        have d1 : w5.cell? ⟨g, 1, none⟩ = some (.string b) := cell_of_row _ _ 1 _ _ _ hgn
        obtain ⟨BB, hBB⟩ : ∃ l, HD ++ (x3.take k).flatMap segA = l := ⟨_, rfl⟩
        rw [hBB] at HBL2 hsz hst2 HST2
        have ha : a.size ≤ 1000000000000 := by omega
        have hb : b.size ≤ 1000000000000 := by omega
        have HWR := hide (fun s (hs : s = (⟨#[32]⟩ : ByteArray) ++ a ++ ⟨#[61, 34]⟩ ++ b ++ ⟨#[34]⟩) => HBL2.out.write s (by
          have h1 : (bts s).length = 1 + a.size + 2 + b.size + 1 := by rw [hs]; simp only [bts_app, List.length_append, bts_size]; rfl
          rw [bts_size] at h1
          omega))
        have k1 : (k : Int) < (n : Int) := by omega
        have k2 : (0 : Int) ≤ (k : Int) := by omega
        clear hkl hxx hst hln hx' hsz hst2 hgn hw5 hg hBB hlt
        go_upto_region 13 with fail
        rw [HW5.out, HG.out]
        go_wp2_with fail
        refine (HWR.out _ rfl).mono ?_
        rintro e w6 ⟨n6, rfl, hbl6⟩
        dsimp only
        have HB6 := hide hbl6
        clear hbl6 HWR d0 d1
        go_wp2_with fail
        go_roundw
        case rel =>
          refine ⟨k + 1, by omega, by go_num, ⟨?_⟩⟩
          rw [HST2.out]
          have h := HB6.out
          simp only [bts_app] at h
          exact h
        case measure => simp only [intOf]; omega
      · have hkk : x3.take k = x3 := List.take_of_length_le (by rw [HN.out]; omega)
        have HBe := HBr.out
        rw [hkk] at HBe
        have HWR := hide (HBe.write ⟨#[62]⟩ (by have := HLH.out; rw [List.length_append]; show _ + 1 ≤ _; omega))
        clear HBr hkk HBe
        go_wp2_with fail
        refine HWR.out.mono ?_
        rintro e w5 ⟨n5, rfl, hbl5⟩
        dsimp only
        have HB5 := hide hbl5
        have HST := hide (Try.Builder_String_any_f w.heap.size w.heap.size _ w5 hbl5.1 (Nat.le_of_lt hbl5.2.2.1))
        clear hbl5 HWR
        go_wp2_with fail
        refine HST.out.mono ?_
        rintro e w6 ⟨rfl, -, hb6⟩
        dsimp only
        have HB6 := hide (HB5.out.2.1.trans hb6)
        clear hb6 HST
        go_wp2_with fail
        go_ret
        exact ⟨rfl, HB6.out⟩
end Go.Proofs.Ytaponaemgolmoaa.Tr
namespace Go.Proofs.Ytaponaemgolmoaa.Tr
open Go.RowKit Go.Proofs.Ytaponaemgolmoaa.PTreeTells Go.Proofs.YtaponaemgolmoaaW.PrintWords Go.Proofs.YtaponaemgolmoaaW.PrintLast
set_option linter.unusedVariables false
set_option linter.unusedSimpArgs false
theorem line_any (ad : Addr) (x : S26) (w : World) (hT : TAt w ad x) (hlen : (lineL x).length ≤ 1000000000000) :
    Calls Try.prog 29 #[.pointer (some ad)] w fun e w' => e = .returned (.string ⟨(lineL x).toArray⟩) ∧ Below w.heap.size w w' := by
  by_cases hk : x.f0 = 3
  · exact line_el ad x w hT hk hlen
  · exact line_no ad x w hT hk hlen
def showF (p : S26 × Nat) : List UInt8 := if 1 < p.2 then Lib.repeatL [32, 32] (p.2 - 2) ++ lineL p.1 ++ [10] else []
theorem cells2 {W : World} {g : Nat} {a b : Value} (h : W.heap[g]? = some (.cells #[a, b] 57 (0, 0))) : W.cell? ⟨g, 0, none⟩ = some a ∧ W.cell? ⟨g, 1, none⟩ = some b := ⟨cell_of_row _ _ 0 _ _ _ h, cell_of_row _ _ 1 _ _ _ h⟩
theorem blkB {W W' : World} {g : Nat} {o : Obj} (h : W.heap[g]? = some o) (hb : Below W.heap.size W W') : W'.heap[g]? = some o := (hb.block _ (blk_lt h)).trans h
set_option maxHeartbeats 8000000 in
set_option maxRecDepth 100000 in
theorem see26 (b : Nat) (w0 : World) (t : S26) (hb : w0.heap.size ≤ b) (hN : ((pre t 1).flatMap showF).length ≤ 1000000000000) : SeeOk 26 #[.pointer (some ⟨b, 0, none⟩)] b (BldIn b showF) (fun _ => true) w0 t := by
  intro done x d ad W hrest hP hT hd hsz
  have hlen := pre_part (f := showF) hrest
  have b1 := below_alloc (Below.refl W.heap.size W) (.cells #[.pointer (some ad), .int .i64 (d : Int)] 57)
  have hgn := heap_alloc_new W (.cells #[.pointer (some ad), .int .i64 (d : Int)] 57)
  obtain ⟨w1, hw1⟩ : ∃ y, W.alloc (.cells #[.pointer (some ad), .int .i64 (d : Int)] 57) = y := ⟨_, rfl⟩
  rw [hw1] at b1 hgn
  have hP1 := hP.stab (Own5.of_below b1)
  have HW1 := hide hw1
  have hbW : b < W.heap.size := hP.2
  have hfl : (done ++ [(x, d)]).flatMap showF = done.flatMap showF ++ showF (x, d) := by simp
  have HFL := hide hfl
  have HB1 := hide b1
  have HP1 := hide hP1
  have HSZ := hide hsz
  have HBG := hide hb
  obtain ⟨gp, hgp⟩ : ∃ y, W.heap.size = y := ⟨_, rfl⟩
  have HGP := hide hgp
  rw [hgp] at hgn
  have HX1 := hide hgn
  have d1 : w1.cell? ⟨gp, 1, none⟩ = some (.int .i64 (d : Int)) := cell_of_row _ _ 1 _ _ _ hgn
  have hgb : gp ≠ b := by omega
  have HGB := hide hgb
  show Calls Try.prog 26 #[.agg #[.pointer (some ad), .int .i64 (d : Int)], .pointer (some ⟨b, 0, none⟩)] W _
  by_cases hk : 1 < d
  · have hft : showF (x, d) = Lib.repeatL [32, 32] (d - 2) ++ lineL x ++ [10] := by unfold showF; rw [if_pos hk]
    rw [hft] at hlen
    simp only [List.length_append, List.length_singleton] at hlen
    have HLINE := hide (fun W' (h : Below W.heap.size W W') => line_any ad x W' (hT.below h) (by omega))
    have HREP := hide (fun W' => Try.strings_Repeat ⟨#[32, 32]⟩ (d - 2) W' (by omega) (by show 2 * (d - 2) ≤ _; omega))
    have ed : ((d - 2 : Nat) : Int) = (d : Int) - 2 := by omega
    obtain ⟨RL, hRL⟩ : ∃ l, Lib.repeatL [32, 32] (d - 2) = l := ⟨_, rfl⟩
    obtain ⟨LL, hLL⟩ : ∃ l, lineL x = l := ⟨_, rfl⟩
    rw [hRL, hLL] at hlen hft
    rw [hLL] at HLINE
    obtain ⟨rs, hrs⟩ : ∃ s : ByteArray, (⟨RL.toArray⟩ : ByteArray) = s := ⟨_, rfl⟩
    obtain ⟨ls, hls⟩ : ∃ s : ByteArray, (⟨LL.toArray⟩ : ByteArray) = s := ⟨_, rfl⟩
    have hbr : bts rs = RL := by rw [← hrs]; rfl
    have hbl : bts ls = LL := by rw [← hls]; rfl
    have zr : rs.size ≤ 1000000000000 := by rw [← bts_size, hbr]; omega
    have zl : ls.size ≤ 1000000000000 := by rw [← bts_size, hbl]; omega
    have zs : rs.size + ls.size ≤ 1000000000000 := by rw [← bts_size, ← bts_size, hbr, hbl]; omega
    have hREP : ∀ W', Calls Try.prog 28 #[.string ⟨#[32, 32]⟩, .int .i64 ((d : Int) - 2)] W' fun e w' => e = .returned (.string rs) ∧ Below W'.heap.size W' w' := by
      intro W'
      have h := HREP.out W'
      rw [ed] at h
      have e : (⟨(Lib.repeatL (⟨#[32, 32]⟩ : ByteArray).data.toList (d - 2)).toArray⟩ : ByteArray) = rs := by rw [← hrs, ← hRL]
      rw [e] at h
      exact h
    rw [hls] at HLINE
    have hwb : (done.flatMap showF).length + (RL.length + LL.length + 1) ≤ 1000000000000 := by omega
    have HWS := hide (fun W' (h : BldIn b showF done W') s (hs : s = rs ++ ls ++ (⟨#[10]⟩ : ByteArray)) => writeString b b (Lib.byteCells (done.flatMap showF)) s W' h.1 (by
      have h1 : (bts s).length = RL.length + LL.length + 1 := by rw [hs]; simp only [bts_app, List.length_append, hbr, hbl]; rfl
      rw [bts_size] at h1
      rw [Lib.byteCells_length]
      omega) (Nat.le_of_lt h.2))
    have HREP2 := hide hREP
    have HFT := hide hft
    have HBR := hide hbr
    have HBLs := hide hbl
    have hd1 : (1 : Int) < (d : Int) := by omega
    have ew : IntKind.i64.wrap ((d : Int) - 2) = (d : Int) - 2 := IntWalk.i64_in _ (by omega)
    have HXD := hide (show w1.drew.heap[gp]? = some (.cells #[.pointer (some ad), .int .i64 (d : Int)] 57 (0, 0)) from HX1.out)
    have HBD := hide (show Below W.heap.size W w1.drew from Below.drew b1)
    have HPD := hide (HP1.out.stab (Own5.of_below (Below.drew (Below.refl _ _)) : Own5 b w1 w1.drew))
    have z1 : ¬ 9223372036854775807 < rs.size + ls.size := by omega
    have z2 : ¬ 9223372036854775807 < rs.size + ls.size + 1 := by omega
    clear hlen hrs hls hbr hbl hREP HREP ed hRL hLL hft hrest hP hP1 hT hw1 b1 hgn hfl hsz hb hgp hgb hwb zs
    go_enter Try.func26, Try.ntmps26
    go_upto_region 1 with fail
    rw [HW1.out, HGP.out]
    go_upto_region 2 with fail
    go_region_held3 (fun W => W.cell? ⟨gp, 0, none⟩ = some (.pointer (some ad)) ∧ W.cell? ⟨gp, 1, none⟩ = some (.int .i64 (d : Int)))
      (first | exact cells2 HX1.out | exact cells2 HXD.out | exact cells2 hxW | exact cells2 hxL | exact cells2 hxR)
      (first
        | (go_at_call 28; (with_reducible refine (HREP2.out _).mono ?_); rintro e wR ⟨rfl, bR⟩; have hxR := blkB (by first | exact HXD.out | exact hxL) bR; have hbR := below_step (by first | exact HBD.out | exact hbL) bR; have hpR := BldIn.stab (by first | exact HPD.out | exact hpL) (Own5.of_below bR))
        | (go_at_call 29; (with_reducible refine (HLINE.out _ ?_).mono ?_); (first | exact HBD.out | exact hbR); rintro e wL ⟨rfl, bL⟩; have hxL := blkB (by first | exact HXD.out | exact hxR) bL; have hbL := below_step (by first | exact HBD.out | exact hbR) bL; have hpL := BldIn.stab (by first | exact HPD.out | exact hpR) (Own5.of_below bL))
        | (go_at_call 27; (with_reducible refine (HWS.out _ ?_ _ ?_).mono ?_); (first | exact hpL | exact hpR); rfl; rintro e wW ⟨rfl, ⟨hbW2, hblW⟩, hbeW⟩; have hxW := hbeW gp _ _ (by first | exact hxL | exact hxR) (by decide) HGB.out; have hbF := (show Below W.heap.size W _ from by first | exact hbL | exact hbR)))
    all_goals
      have HF1 := hide hbF
      have HF2 := hide hbW2
      have HF3 := hide hblW
      have HF4 := hide hbeW
      clear hbF hbW2 hblW hbeW
      go_wp2_with fail
      go_ret
      refine ⟨rfl, ⟨?_, ?_⟩, (HF1.out.mono HSZ.out).trans (HF3.out.mono HBG.out), (Beside.of_below HF1.out).trans HF4.out⟩
      · rw [HFL.out, HFT.out, Lib.byteCells_append]
        have h := HF2.out
        rw [Lib.strCells_eq] at h
        have e : (rs ++ ls ++ (⟨#[10]⟩ : ByteArray)).data.toList = _ := (show bts (rs ++ ls ++ (⟨#[10]⟩ : ByteArray)) = _ from by rw [bts_app, bts_app, HBR.out, HBLs.out])
        rw [e] at h
        exact .inr h
      · exact Nat.lt_of_lt_of_le (Nat.lt_of_lt_of_le hbW HF1.out.size) HF3.out.size
  · have hft : showF (x, d) = [] := by unfold showF; rw [if_neg hk]
    have HFT := hide hft
    have hd1 : ¬ (1 : Int) < (d : Int) := by omega
    clear hft hlen hrest hP hP1 hT hw1 b1 hgn hfl hsz hb hgp hgb
    go_enter Try.func26, Try.ntmps26
    go_upto_region 1 with fail
    rw [HW1.out, HGP.out]
    go_wp2_with fail
    go_ret
    refine ⟨rfl, ⟨?_, HP1.out.2⟩, HB1.out.mono HSZ.out, Beside.of_below HB1.out⟩
    rw [HFL.out, HFT.out, List.append_nil]
    exact HP1.out.1
theorem enter26 (args : Array Value) (W : World) : (callFunc 26 args).run Try.prog W = .ok (.enter 26 args) W := enterF Try.func26 (by kernel_rfl) (by kernel_rfl) args W
set_option maxHeartbeats 2000000 in
set_option maxRecDepth 100000 in
theorem tshow (t : S26) (A3 : Option Addr) (c3 : Nat) (A5 : Option Addr) (c5 : Nat) (w : World) (l3 : t.f3.length ≤ c3) (g3 : k33.C w A3 t.f3.length t.f3) (l5 : t.f5.length ≤ c5) (g5 : k26.C w A5 t.f5.length t.f5) (hN : (pre t 1).length ≤ 1000000000) (hM : ((pre t 1).flatMap showF).length ≤ 1000000000000) :
    Calls Try.prog 10 #[.agg #[.int .i64 t.f0, .int .i64 t.f1, .string t.f2, .slice A3 t.f3.length c3, .string t.f4, .slice A5 t.f5.length c5]] w fun e w' => e = .returned (.string ⟨((pre t 1).flatMap showF).toArray⟩) ∧ Below w.heap.size w w' := by
  have hgn := heap_alloc_new w (.cells #[.int .i64 t.f0, .int .i64 t.f1, .string t.f2, .slice A3 t.f3.length c3, .string t.f4, .slice A5 t.f5.length c5] 26)
  have b1 := below_alloc (Below.refl w.heap.size w) (.cells #[.int .i64 t.f0, .int .i64 t.f1, .string t.f2, .slice A3 t.f3.length c3, .string t.f4, .slice A5 t.f5.length c5] 26)
  have ht := TAt_blk hgn l3 (Kd.C_below g3 b1) l5 (Kd.C_below g5 b1)
  obtain ⟨w1, hw1⟩ : ∃ y, w.alloc (.cells #[.int .i64 t.f0, .int .i64 t.f1, .string t.f2, .slice A3 t.f3.length c3, .string t.f4, .slice A5 t.f5.length c5] 26) = y := ⟨_, rfl⟩
  rw [hw1] at hgn b1 ht
  have hF := Lib.fresh_isBuilder 53 5 w1
  have b2 := below_alloc (Below.refl w1.heap.size w1) (.cells #[.pointer none, .slice none 0 0] 53)
  have hs2 : (w1.alloc (.cells #[.pointer none, .slice none 0 0] 53)).heap.size = w1.heap.size + 1 := by simp
  obtain ⟨w2, hw2⟩ : ∃ y, w1.alloc (.cells #[.pointer none, .slice none 0 0] 53) = y := ⟨_, rfl⟩
  rw [hw2] at hF b2 hs2
  have hs1 : w1.heap.size = w.heap.size + 1 := by rw [← hw1]; simp
  have hbs : w1.heap.size < w2.heap.size := by omega
  have hP0 : BldIn w1.heap.size showF [] w2 := ⟨Lib.IsBuilderF.of hF, hbs⟩
  have hS := see26 w1.heap.size w1 t (Nat.le_refl _) hM
  have HWALK := hide (walkC 26 #[.pointer (some ⟨w1.heap.size, 0, none⟩)] w1.heap.size (BldIn w1.heap.size showF) (fun _ => true) w1 w2 ⟨w.heap.size, 0, none⟩ t ht hN b2 hbs hP0 enter26 (fun _ _ _ h ho => h.stab ho) hS)
  have HW1 := hide hw1
  have HW2 := hide hw2
  have HB := hide (below_step b1 b2)
  have HSZ := hide (show w.heap.size ≤ w1.heap.size from b1.size)
  obtain ⟨L, hL⟩ : ∃ L, pre t 1 = L := ⟨_, rfl⟩
  rw [hL, hs1] at HWALK
  rw [hL]
  obtain ⟨a0, a1, a2, a3, a4, a5⟩ := t
  dsimp only at HW1 ⊢
  clear hs1 hP0 hS hbs hgn b1 ht hw1 hF b2 hs2 hw2 g3 g5 l3 l5 hN hM hL
  go_enter Try.func10, Try.ntmps10
  go_upto_region 2 with fail
  rw [HW1.out, HW2.out]
  go_wp2_with fail
  refine HWALK.out.mono ?_
  rintro e w3 ⟨hb3, rfl, hP⟩
  have hall : L.all (fun _ => true) = true := by simp
  obtain ⟨hbl, hbz⟩ := hP hall
  have HST := hide (Try.Builder_String_any_f (w.heap.size + 1) (w.heap.size + 1) (L.flatMap showF) w3 hbl (Nat.le_of_lt hbz))
  have HB3 := hide (HB.out.trans (hb3.mono HSZ.out))
  have HZ := hide (show w.heap.size ≤ w.heap.size + 1 from by omega)
  rw [hall]
  clear hb3 hP hall HWALK hbl hbz
  go_wp2_with fail
  refine HST.out.mono ?_
  rintro e w4 ⟨rfl, -, hb4⟩
  dsimp only
  have HB4 := hide (HB3.out.trans (hb4.mono HZ.out))
  clear hb4 HST
  go_wp2_with fail
  go_ret
  exact ⟨rfl, HB4.out⟩
end Go.Proofs.Ytaponaemgolmoaa.Tr
