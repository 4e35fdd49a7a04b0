/- The contracts of a pipe's functions, for whole numbers and texts: what each call returns, and how the line turns; nothing else turns. -/
import Derived.Test.YtomfcaddlmkaoaaPipeLow
import Derived.Test.YtomfcaddlmkaoaaPPipePlaysx1
import Derived.Test.YtomfcaddlmkaoaaPPipeOrderx1
import Derived.Deep.RegionLaw
namespace Go.Proofs.Ytomfcaddlmkaoaa.Pipe
open Go.RowKit Go.Conc Go.Proofs.YtomfcaddlmkaoaaW.PrintWords Go.Proofs.YtomfcaddlmkaoaaW.PrintLast
theorem hide {p : Prop} (h : p) : Hid p := h

/-- All is as it was, but the block C. -/
structure Turn (C : Nat) (w w' : World) : Prop where
  os : w'.os = w.os
  tape : w'.tape = w.tape
  output : w'.output = w.output
  size : w.heap.size ≤ w'.heap.size
  block : ∀ k, k < w.heap.size → k ≠ C → w'.heap[k]? = w.heap[k]?
theorem Turn.refl (C : Nat) (w : World) : Turn C w w := ⟨rfl, rfl, rfl, Nat.le_refl _, fun _ _ _ => rfl⟩
theorem Turn.trans {C : Nat} {a b c : World} (h : Turn C a b) (k : Turn C b c) : Turn C a c :=
  ⟨k.os.trans h.os, k.tape.trans h.tape, k.output.trans h.output, Nat.le_trans h.size k.size, fun i hi hc => (k.block i (Nat.lt_of_lt_of_le hi h.size) hc).trans (h.block i hi hc)⟩
theorem Turn.of_below {C : Nat} {w w' : World} (h : Below w.heap.size w w') : Turn C w w' := ⟨h.os, h.tape, h.output, h.size, fun k hk _ => h.block k hk⟩
theorem Turn.below {B C : Nat} {w0 w w' : World} (h : Turn C w w') (hb : Below B w0 w) (hB : B ≤ w.heap.size) (hC : B ≤ C) : Below B w0 w' :=
  hb.trans ⟨h.os, h.tape, h.output, h.size, fun k hk => h.block k (by omega) (by omega)⟩
theorem Turn.keep {C : Nat} {w w' : World} (h : Turn C w w') : KeepBut w w' C none := ⟨h.size, fun i hi hc _ => h.block i hi hc⟩
theorem Turn.chan {C cap s r : Nat} {buf : Array Value} {cl tm : Bool} (w : World) : Turn C w (w.setChan C cap buf cl s r tm) :=
  ⟨rfl, rfl, rfl, by simp [World.setChan], fun k _ hk => by simp only [World.setChan]; rw [Array.getElem?_setIfInBounds_ne (by omega)]⟩

/-- The line: its struct in the block P, its channel in the block C, with room for n, and the elements in it. -/
structure Pip {α : Type} (enc : α → Value) (n P C : Nat) (xs : List α) (w : World) : Prop where
  ptr : w.cell? ⟨P, 0, none⟩ = some (.chan (some C))
  chan : ∃ s r, w.heap[C]? = some (.chan n (xs.map enc).toArray false s r false)
  size : xs.length ≤ n
theorem Pip.ltC {α : Type} {enc : α → Value} {n P C : Nat} {xs : List α} {w : World} (h : Pip enc n P C xs w) : C < w.heap.size := by
  obtain ⟨s, r, hc⟩ := h.chan
  exact blk_lt hc
theorem Pip.ltP {α : Type} {enc : α → Value} {n P C : Nat} {xs : List α} {w : World} (h : Pip enc n P C xs w) : P < w.heap.size := World.block_lt_of_cell? _ _ h.ptr
theorem cell_chan {w : World} {c cap s r : Nat} {buf : Array Value} {cl tm : Bool} {v : Value} {p : Addr} (h : w.cell? p = some v) (hc : w.heap[c]? = some (.chan cap buf cl s r tm)) : p.block ≠ c := by
  intro e
  subst e
  unfold World.cell? at h
  split at h
  · rename_i h1; rw [hc] at h1; cases h1
  · cases h
theorem Pip.ne {α : Type} {enc : α → Value} {n P C : Nat} {xs : List α} {w : World} (h : Pip enc n P C xs w) : P ≠ C := by
  obtain ⟨s, r, hc⟩ := h.chan
  exact cell_chan h.ptr hc
theorem cell_of_block {w w' : World} {p : Addr} (h : w'.heap[p.block]? = w.heap[p.block]?) : w'.cell? p = w.cell? p := by
  unfold World.cell?
  rw [h]
theorem Pip.below {α : Type} {enc : α → Value} {n P C : Nat} {xs : List α} {w w' : World} (h : Pip enc n P C xs w) (hb : Below w.heap.size w w') : Pip enc n P C xs w' := by
  obtain ⟨s, r, hc⟩ := h.chan
  exact ⟨(hb.cell h.ltP).trans h.ptr, ⟨s, r, (hb.block C h.ltC).trans hc⟩, h.size⟩
theorem Pip.grown {α : Type} {enc : α → Value} {n P C : Nat} {xs : List α} {w w' : World} (h : Pip enc n P C xs w) {row : Option Nat} (hg : w.grownBy w' row) (h1 : some P ≠ row) (h2 : some C ≠ row) : Pip enc n P C xs w' := by
  obtain ⟨s, r, hc⟩ := h.chan
  exact ⟨(cell_of_block (hg.block P h.ltP h1)).trans h.ptr, ⟨s, r, (hg.block C h.ltC h2).trans hc⟩, h.size⟩
/-- Another line's turning leaves this one. -/
theorem Pip.turn {α : Type} {enc : α → Value} {n P C : Nat} {xs : List α} {w w' : World} (h : Pip enc n P C xs w) {D : Nat} (hg : Turn D w w') (h1 : P ≠ D) (h2 : C ≠ D) : Pip enc n P C xs w' := by
  obtain ⟨s, r, hc⟩ := h.chan
  exact ⟨(cell_of_block (hg.block P h.ltP h1)).trans h.ptr, ⟨s, r, (hg.block C h.ltC h2).trans hc⟩, h.size⟩
/-- A row does not lie in the channel's block. -/
theorem R_line {α β : Type} {enc : α → Value} {n P C : Nat} {xs : List α} {w : World} (h : Pip enc n P C xs w) {d : Kd β} {e base : Nat} {ok : Nat → Prop} {v : Value} {ys : List β} (hR : d.R e w base ok v ys) : d.R e w base (fun k => ok k ∧ k ≠ C) v ys := by
  obtain ⟨s, r, hc⟩ := h.chan
  refine Kd.R_mono (Kd.R_bound hR) (fun k hk => ⟨hk.1, fun e => ?_⟩)
  obtain ⟨_, _, _, q, _, cells, hq⟩ := hk
  rw [e, hc] at hq
  cases hq
theorem R_turn {α β : Type} {enc : α → Value} {n P C : Nat} {xs : List α} {w w' : World} (h : Pip enc n P C xs w) (ht : Turn C w w') {d : Kd β} {e base : Nat} {ok : Nat → Prop} {v : Value} {ys : List β} (hR : d.R e w base ok v ys) : d.R e w' base ok v ys :=
  Kd.R_drop (Kd.R_keep (R_line h hR) ht.keep (fun _ hk => hk.2))
theorem R_apart {α β : Type} {enc : α → Value} {n P C : Nat} {xs : List α} {w : World} (h : Pip enc n P C xs w) {d : Kd β} {e base : Nat} {ok : Nat → Prop} {v : Value} {ys : List β} (hR : d.R e w base ok v ys) : some C ≠ v.ownBlock := fun e => (R_line h hR).1 C e.symm |>.2 rfl
theorem C_turn {α : Type} {β : Type} {enc : α → Value} {enc' : β → Value} {n P C : Nat} {xs : List α} {w w' : World} (h : Pip enc n P C xs w) (ht : Turn C w w') {h1 : ∀ x : β, (enc' x).oneCell' = true} (z : β) {A : Option Addr} {ys : List β} (hR : (Kd.scalar enc' h1).C w A ys.length ys) : (Kd.scalar enc' h1).C w' A ys.length ys := by
  obtain ⟨s, r, hc⟩ := h.chan
  refine Kd.C_keep z hR ht.keep (fun ad e h0 => ?_)
  obtain ⟨a, e2, hcell⟩ := hR.2.2 h0
  rw [e] at e2
  cases e2
  obtain ⟨cs, hl, hk, hq⟩ := hcell 0 _ (List.getElem?_eq_getElem h0)
  have hcs : cs = [enc' ys[0]] := hk
  subst hcs
  have := cell_chan (hq 0 _ rfl) hc
  simpa [Addr.add] using this
theorem map_push {α : Type} (enc : α → Value) (xs : List α) (x : α) : (xs.map enc).toArray.push (enc x) = ((xs ++ [x]).map enc).toArray := by simp
theorem map_pop {α : Type} (enc : α → Value) (x : α) (xs : List α) : ((x :: xs).map enc).toArray.extract 1 ((x :: xs).map enc).toArray.size = (xs.map enc).toArray := by
  apply Array.ext'
  simp
  rw [List.take_of_length_le (by simp)]

def inLine (w : World) (C : Nat) : Nat := match w.heap[C]? with | some (.chan _ buf _ _ _ _) => buf.size | _ => 0
theorem Pip.inLine {α : Type} {enc : α → Value} {n P C : Nat} {xs : List α} {w : World} (h : Pip enc n P C xs w) : inLine w C = xs.length := by
  obtain ⟨s, r, hc⟩ := h.chan
  unfold Pipe.inLine
  rw [hc]
  simp
theorem Turn.grown {C : Nat} {w w1 w2 : World} (h : Turn C w w1) {row : Option Nat} (hg : w1.grownBy w2 row) (hr : ∀ k, row = some k → w.heap.size ≤ k) : Turn C w w2 :=
  ⟨hg.os.trans h.os, hg.tape.trans h.tape, hg.output.trans h.output, Nat.le_trans h.size hg.size, fun k hk hc => (hg.block k (Nat.lt_of_lt_of_le hk h.size) (fun e => by have := hr k e.symm; omega)).trans (h.block k hk hc)⟩
theorem take_succ {α : Type} (l : List α) (k : Nat) (hk : k < l.length) (z : α) : l.take (k + 1) = l.take k ++ [l.getD k z] := by
  rw [List.take_succ_eq_append_getElem hk, List.getD_eq_getElem?_getD, List.getElem?_eq_getElem hk]
  rfl

/-! ### I -/
theorem infoI : ∃ i, Try.prog.info? 3 = some i ∧ i.bytes = 8 := by
  have h : (Try.prog.info? 3).map (·.bytes) = some 8 := by kernel_rfl
  obtain ⟨i, hi, hb⟩ := Option.map_eq_some_iff.1 h
  exact ⟨i, hi, hb⟩
/-- New: a line of nothing. -/
theorem newI (n : Nat) (h1 : 1 ≤ n) (h2 : n ≤ 4096) (w : World) : Calls Try.prog 7 #[.int .i64 n] w fun e w' =>
    e = .returned (.tuple #[.pointer (some ⟨w.heap.size + 1, 0, none⟩), .int .i64 0]) ∧ Below w.heap.size w w' ∧ w'.heap.size = w.heap.size + 2 ∧ Pip (Value.int .i64) n (w.heap.size + 1) w.heap.size [] w' := by
  have hmc : ∀ W : World, (Instr.makeChan 52 (.int .i64 n)).run Try.prog W = .ok (.chan (some W.heap.size)) (W.alloc (.chan n #[] false 0 0 false)) := by
    intro W
    obtain ⟨i, hi, hb⟩ := infoI
    exact run_makeChan (P := Try.prog) (w := W) Try.underlying52 hi .i64 n (by omega) (by rw [hb]; omega)
  have t1 : ¬ ((n : Int) < 1) := by omega
  have t2 : ¬ (4096 < (n : Int)) := by omega
  have d1 : decide ((n : Int) < 1) = false := decide_eq_false t1
  have d2 : decide (4096 < (n : Int)) = false := decide_eq_false t2
  go_enter Try.func7, Try.ntmps7
  go_wp2_with fail
  go_ret2
  refine ⟨rfl, below_alloc (below_alloc (Below.refl _ _) _) _, by simp, ?_, ?_, by simp⟩
  · have := heap_alloc_new (w.alloc (.chan n #[] false 0 0 false)) (.cells #[.chan (some w.heap.size)] 54)
    rw [show (w.alloc (.chan n #[] false 0 0 false)).heap.size = w.heap.size + 1 from by simp] at this
    exact cell_of_row _ _ 0 _ _ _ this
  · exact ⟨0, 0, (Below.heap_alloc _ _ _ (by simp)).trans (heap_alloc_new w _)⟩
theorem newNoneI (n : Int) (h : n < 1 ∨ 4096 < n) (w : World) : Calls Try.prog 7 #[.int .i64 n] w fun e w' => e = .returned (.tuple #[.pointer none, .int .i64 1]) ∧ Below w.heap.size w w' := by
  rcases h with h | h
  · have d1 : decide (n < 1) = true := decide_eq_true h
    go_enter Try.func7, Try.ntmps7
    go_wp2_with fail
    go_ret2
    exact ⟨rfl, Below.refl _ _⟩
  · have d1 : decide (n < 1) = false := decide_eq_false (by omega)
    have d2 : decide (4096 < n) = true := decide_eq_true h
    go_enter Try.func7, Try.ntmps7
    go_wp2_with fail
    go_ret2
    exact ⟨rfl, Below.refl _ _⟩
/-- Put: at the end, if there is room. -/
theorem putI (n P C : Nat) (xs : List Int) (x : Int) (w : World) (h : Pip (Value.int .i64) n P C xs w) : Calls Try.prog 12 #[.pointer (some ⟨P, 0, none⟩), (Value.int .i64) x] w fun e w' =>
    e = .returned (.bool (decide (xs.length < n))) ∧ Turn C w w' ∧ Pip (Value.int .i64) n P C (if xs.length < n then xs ++ [x] else xs) w' := by
  obtain ⟨s, r, hc⟩ := h.chan
  by_cases hn : xs.length < n
  · refine (putRoomI P C n s r _ x w h.ptr hc (by simpa using hn)).mono ?_
    rintro e w' ⟨rfl, rfl⟩
    rw [decide_eq_true hn, if_pos hn, map_push]
    exact ⟨rfl, Turn.chan w, ⟨(cell_of_block ((Turn.chan (C := C) w).block P h.ltP h.ne)).trans h.ptr, ⟨_, _, heap_setChan w C n _ false _ _ false h.ltC⟩, by simp; omega⟩⟩
  · refine (putFullI P C n s r _ x w h.ptr hc (by simpa using hn)).mono ?_
    rintro e w' ⟨rfl, rfl⟩
    rw [decide_eq_false hn, if_neg hn]
    exact ⟨rfl, Turn.refl _ _, h⟩
/-- Take: the first one. -/
theorem takeI (n P C : Nat) (x : Int) (xs : List Int) (w : World) (h : Pip (Value.int .i64) n P C (x :: xs) w) : Calls Try.prog 8 #[.pointer (some ⟨P, 0, none⟩)] w fun e w' =>
    e = .returned (.tuple #[(Value.int .i64) x, .bool true]) ∧ Turn C w w' ∧ Pip (Value.int .i64) n P C xs w' := by
  obtain ⟨s, r, hc⟩ := h.chan
  refine (takeSomeI P C n s r _ w h.ptr hc ((Value.int .i64) x) (by simp) (by simp)).mono ?_
  rintro e w' ⟨rfl, rfl⟩
  rw [map_pop]
  exact ⟨rfl, Turn.chan w, ⟨(cell_of_block ((Turn.chan (C := C) w).block P h.ltP h.ne)).trans h.ptr, ⟨_, _, heap_setChan w C n _ false _ _ false h.ltC⟩, by have := h.size; simp at this; omega⟩⟩
theorem takeNilI (n P C : Nat) (w : World) (h : Pip (Value.int .i64) n P C [] w) : Calls Try.prog 8 #[.pointer (some ⟨P, 0, none⟩)] w fun e w' =>
    e = .returned (.tuple #[.int .i64 0, .bool false]) ∧ w' = w := by
  obtain ⟨s, r, hc⟩ := h.chan
  exact takeNoneI P C n s r w h.ptr hc
theorem lenI (n P C : Nat) (xs : List Int) (w : World) (h : Pip (Value.int .i64) n P C xs w) : Calls Try.prog 9 #[.pointer (some ⟨P, 0, none⟩)] w fun e w' => e = .returned (.int .i64 xs.length) ∧ Below w.heap.size w w' := by
  obtain ⟨s, r, hc⟩ := h.chan
  have hp := h.ptr
  have hl := run_len_chan (P := Try.prog) (w := w) 52 3 Try.underlying52 hc
  rw [show goInt (xs.map (Value.int .i64)).toArray.size = .int .i64 xs.length from by simp [goInt]] at hl
  go_enter Try.func9, Try.ntmps9
  go_wp2_with fail
  go_ret
  exact ⟨rfl, Below.refl _ _⟩
theorem roomI (n P C : Nat) (xs : List Int) (w : World) (h : Pip (Value.int .i64) n P C xs w) (hn : n ≤ 4096) : Calls Try.prog 10 #[.pointer (some ⟨P, 0, none⟩)] w fun e w' => e = .returned (.int .i64 (n - xs.length : Nat)) ∧ Below w.heap.size w w' := by
  obtain ⟨s, r, hc⟩ := h.chan
  have hp := h.ptr
  have hs := h.size
  have hl : ∀ m, (Builtin.len_ #[52] 3 #[.chan (some C)]).run Try.prog (w.drewN m) = .ok (.int .i64 xs.length) (w.drewN m) := by
    intro m
    have := run_len_chan (P := Try.prog) (w := w.drewN m) 52 3 Try.underlying52 ((congrArg (·[C]?) (World.heap_drewN w m)).trans hc)
    rw [show goInt (xs.map (Value.int .i64)).toArray.size = .int .i64 xs.length from by simp [goInt]] at this
    exact this
  have hq : ∀ m, (Builtin.cap_ #[52] 3 #[.chan (some C)]).run Try.prog (w.drewN m) = .ok (.int .i64 n) (w.drewN m) := fun m =>
    run_cap_chan (P := Try.prog) (w := w.drewN m) 52 3 Try.underlying52 ((congrArg (·[C]?) (World.heap_drewN w m)).trans hc)
  have ew : IntKind.i64.wrap ((n : Int) - (xs.length : Int)) = ((n - xs.length : Nat) : Int) := by rw [IntWalk.i64_in _ (by omega)]; omega
  go_enter Try.func10, Try.ntmps10
  go_wp2_with fail
  go_quiet (fail)
  go_wp2_with fail
  go_ret
  exact ⟨rfl, pw_below_drewN (Below.refl _ _) _⟩
set_option maxRecDepth 100000 in
theorem fillI (n P C : Nat) (xs : List Int) (A : Option Addr) (c : Nat) (l : List Int) (w : World) (h : Pip (Value.int .i64) n P C xs w) (hl : (Kd.int .i64).C w A l.length l) : Calls Try.prog 11 #[.pointer (some ⟨P, 0, none⟩), .slice A l.length c] w fun e w' =>
    e = .returned (.int .i64 (min l.length (n - xs.length) : Nat)) ∧ Turn C w w' ∧ Pip (Value.int .i64) n P C (xs ++ l.take (n - xs.length)) w' ∧ (Kd.int .i64).C w' A l.length l := by
  have H := hide h
  have HL := hide hl
  have hs := h.size
  have hmax := hl.2.1
  clear h hl
  go_enter Try.func11, Try.ntmps11
  go_wp2_with fail
  go_loopw [9] (fun i wr => ∃ k : Nat, k ≤ l.length ∧ k ≤ n - xs.length ∧ i = .int .i64 k ∧ Aside0 (Pip (Value.int .i64) n P C (xs ++ l.take k) wr) ∧ Aside0 (Turn C w wr) ∧ Aside0 ((Kd.int .i64).C wr A l.length l)) (fun i _ => l.length - (intOf i).toNat)
  case atStart => exact ⟨0, by omega, by omega, rfl, ⟨by simpa using H.out⟩, ⟨Turn.refl _ _⟩, ⟨HL.out⟩⟩
  case round =>
    clear H HL
    obtain ⟨k, hk, hk2, rfl, HP, HT, HL⟩ := hrel
    by_cases hlt : k < l.length
    · have hi1 : (k : Int) < l.length := by omega
      have hi0 : (0 : Int) ≤ k := by omega
      obtain ⟨ad, cs, rfl, hcs, hK, hcell⟩ := Kd.C_get HL.out 0 (k : Int) hi0 hi1
      have hcs2 : cs = [(Value.int .i64) (l.getD k 0)] := hK
      subst hcs2
      have h0 := hcell 0 _ rfl
      rw [show (k : Int).toNat * (Kd.int .i64).sz + 0 = k from by show (k : Int).toNat * 1 + 0 = k; omega] at h0
      clear hcell hK hcs
      obtain ⟨x, hx⟩ : ∃ x, l.getD k 0 = x := ⟨_, rfl⟩
      rw [hx] at h0
      have hput := putI n P C (xs ++ l.take k) x wr HP.out
      rw [show (xs ++ l.take k).length = xs.length + k from by simp; omega] at hput
      have HX := hide hx
      clear hx
      go_wp2_with fail
      by_cases hroom : xs.length + k < n
      · rw [decide_eq_true hroom, if_pos hroom] at hput
        refine hput.mono ?_
        rintro e w1 ⟨rfl, ht, hp⟩
        rw [List.append_assoc, ← HX.out, ← take_succ l k hlt 0] at hp
        have HP1 := hide hp
        have HT1 := hide (HT.out.trans ht)
        have HL1 := hide (C_turn HP.out ht 0 HL.out)
        clear hp ht hput HX HP HT HL h0
        dsimp only
        go_wp2_with fail
        go_roundw
        case rel => exact ⟨k + 1, by omega, by omega, by go_num, ⟨HP1.out⟩, ⟨HT1.out⟩, ⟨HL1.out⟩⟩
        case measure => simp only [intOf]; omega
      · rw [decide_eq_false hroom, if_neg hroom] at hput
        refine hput.mono ?_
        rintro e w1 ⟨rfl, ht, hp⟩
        have HP1 := hide hp
        have HT1 := hide (HT.out.trans ht)
        have HL1 := hide (C_turn HP.out ht 0 HL.out)
        clear hp ht hput HX HP HT HL h0
        have hkn : k = n - xs.length := by omega
        subst hkn
        dsimp only
        go_wp2_with fail
        go_ret
        exact ⟨by rw [Nat.min_eq_right hk]; rfl, HT1.out, HP1.out, HL1.out⟩
    · have hkl : k = l.length := by omega
      subst hkl
      go_wp2_with fail
      go_ret
      refine ⟨by rw [Nat.min_eq_left hk2]; rfl, HT.out, ?_, HL.out⟩
      rw [List.take_of_length_le hk2]
      have := HP.out
      rwa [List.take_length] at this
theorem infozI : (Try.prog.info? 3).map (fun i => (i.zero, i.size, i.bytes)) = some (some (.int .i64 0), 1, 8) := by kernel_rfl
set_option maxHeartbeats 1000000 in
set_option maxRecDepth 100000 in
theorem drainI (n P C : Nat) (xs : List Int) (w : World) (h : Pip (Value.int .i64) n P C xs w) (hn : n ≤ 4096) : Calls Try.prog 13 #[.pointer (some ⟨P, 0, none⟩)] w fun e w' =>
    ∃ v, e = .returned v ∧ (Kd.int .i64).R 3 w' w.heap.size (fun _ => True) v xs ∧ Turn C w w' ∧ Pip (Value.int .i64) n P C [] w' := by
  have H := hide h
  have hs := h.size
  have hP := h.ltP
  clear h
  go_enter Try.func13, Try.ntmps13
  go_wp2_with fail
  go_loopw [3] (fun v wr => ∃ ys zs : List Int, Aside0 (xs = ys ++ zs) ∧ Aside0 ((Kd.int .i64).R 3 wr w.heap.size (fun _ => True) v ys) ∧ Aside0 (Pip (Value.int .i64) n P C zs wr) ∧ Aside0 (Turn C w wr)) (fun _ wr => inLine wr C)
  case atStart => exact ⟨[], xs, ⟨rfl⟩, ⟨Kd.R_nil _ _ _ _ _⟩, ⟨H.out⟩, ⟨Turn.refl _ _⟩⟩
  case round =>
    clear H
    obtain ⟨ys, zs, HE, HO, HP, HT⟩ := hrel
    match zs, HE, HP with
    | [], HE, HP =>
      have htake := takeNilI n P C wr HP.out
      go_wp2_with fail
      refine htake.mono ?_
      rintro e w1 ⟨rfl, rfl⟩
      dsimp only
      go_wp2_with fail
      go_ret
      refine ⟨_, rfl, ?_, HT.out, HP.out⟩
      rw [HE.out, List.append_nil]
      exact HO.out
    | z :: zs, HE, HP =>
      have htake := takeI n P C z zs wr HP.out
      have hylen : ys.length + zs.length + 1 ≤ n := by have := congrArg List.length HE.out; simp at this; omega
      have HM := hide HP.out.inLine
      go_wp2_with fail
      refine htake.mono ?_
      rintro e w1 ⟨rfl, ht, hp⟩
      have HO1 := hide (R_turn HP.out ht HO.out)
      have HT1 := hide (HT.out.trans ht)
      have HP1 := hide hp
      have HB1 := hide (show Below w.heap.size w1 w1 from Below.refl _ _)
      have hz1 : w.heap.size ≤ w1.heap.size := HT1.out.size
      clear ht hp htake HO HP HT
      dsimp only
      go_wp2_with (at_builtin; refine Kd.R_append (Kd.int .i64) (w0 := w1) w.heap.size rfl (.tmp 14) (.tmp 16) 22 3 (.int .i64 0) 8 rfl Try.underlying22 infozI rfl (by decide) (by decide) _ ys z [(Value.int .i64) z] (fun _ => True) (fun _ => False) rfl rfl rfl (fun k hk => hk.elim) (fun _ _ => trivial) HO1.out HB1.out hz1 (by omega) ?_; intro v1 w3 ho hb hg hown; have HO3 := hide ho; have HG := hide hg; clear ho hb hg hown)
      have hP3 := hide (HP1.out.grown HG.out (fun e => by have := Kd.R_base HO1.out _ e.symm; omega) (R_apart HP1.out HO1.out))
      have hT3 := hide (HT1.out.grown HG.out (fun k e => Kd.R_base HO1.out _ e))
      go_roundw
      case rel => exact ⟨ys ++ [z], zs, ⟨by rw [HE.out]; simp⟩, ⟨HO3.out⟩, ⟨hP3.out⟩, ⟨hT3.out⟩⟩
      case measure => show inLine w3 C < inLine wr C; rw [hP3.out.inLine, HM.out]; simp

/-! ### S -/
theorem infoS : ∃ i, Try.prog.info? 9 = some i ∧ i.bytes = 16 := by
  have h : (Try.prog.info? 9).map (·.bytes) = some 16 := by kernel_rfl
  obtain ⟨i, hi, hb⟩ := Option.map_eq_some_iff.1 h
  exact ⟨i, hi, hb⟩
/-- New: a line of nothing. -/
theorem newS (n : Nat) (h1 : 1 ≤ n) (h2 : n ≤ 4096) (w : World) : Calls Try.prog 17 #[.int .i64 n] w fun e w' =>
    e = .returned (.tuple #[.pointer (some ⟨w.heap.size + 1, 0, none⟩), .int .i64 0]) ∧ Below w.heap.size w w' ∧ w'.heap.size = w.heap.size + 2 ∧ Pip Value.string n (w.heap.size + 1) w.heap.size [] w' := by
  have hmc : ∀ W : World, (Instr.makeChan 56 (.int .i64 n)).run Try.prog W = .ok (.chan (some W.heap.size)) (W.alloc (.chan n #[] false 0 0 false)) := by
    intro W
    obtain ⟨i, hi, hb⟩ := infoS
    exact run_makeChan (P := Try.prog) (w := W) Try.underlying56 hi .i64 n (by omega) (by rw [hb]; omega)
  have t1 : ¬ ((n : Int) < 1) := by omega
  have t2 : ¬ (4096 < (n : Int)) := by omega
  have d1 : decide ((n : Int) < 1) = false := decide_eq_false t1
  have d2 : decide (4096 < (n : Int)) = false := decide_eq_false t2
  go_enter Try.func17, Try.ntmps17
  go_wp2_with fail
  go_ret2
  refine ⟨rfl, below_alloc (below_alloc (Below.refl _ _) _) _, by simp, ?_, ?_, by simp⟩
  · have := heap_alloc_new (w.alloc (.chan n #[] false 0 0 false)) (.cells #[.chan (some w.heap.size)] 58)
    rw [show (w.alloc (.chan n #[] false 0 0 false)).heap.size = w.heap.size + 1 from by simp] at this
    exact cell_of_row _ _ 0 _ _ _ this
  · exact ⟨0, 0, (Below.heap_alloc _ _ _ (by simp)).trans (heap_alloc_new w _)⟩
theorem newNoneS (n : Int) (h : n < 1 ∨ 4096 < n) (w : World) : Calls Try.prog 17 #[.int .i64 n] w fun e w' => e = .returned (.tuple #[.pointer none, .int .i64 1]) ∧ Below w.heap.size w w' := by
  rcases h with h | h
  · have d1 : decide (n < 1) = true := decide_eq_true h
    go_enter Try.func17, Try.ntmps17
    go_wp2_with fail
    go_ret2
    exact ⟨rfl, Below.refl _ _⟩
  · have d1 : decide (n < 1) = false := decide_eq_false (by omega)
    have d2 : decide (4096 < n) = true := decide_eq_true h
    go_enter Try.func17, Try.ntmps17
    go_wp2_with fail
    go_ret2
    exact ⟨rfl, Below.refl _ _⟩
/-- Put: at the end, if there is room. -/
theorem putS (n P C : Nat) (xs : List ByteArray) (x : ByteArray) (w : World) (h : Pip Value.string n P C xs w) : Calls Try.prog 18 #[.pointer (some ⟨P, 0, none⟩), Value.string x] w fun e w' =>
    e = .returned (.bool (decide (xs.length < n))) ∧ Turn C w w' ∧ Pip Value.string n P C (if xs.length < n then xs ++ [x] else xs) w' := by
  obtain ⟨s, r, hc⟩ := h.chan
  by_cases hn : xs.length < n
  · refine (putRoomS P C n s r _ x w h.ptr hc (by simpa using hn)).mono ?_
    rintro e w' ⟨rfl, rfl⟩
    rw [decide_eq_true hn, if_pos hn, map_push]
    exact ⟨rfl, Turn.chan w, ⟨(cell_of_block ((Turn.chan (C := C) w).block P h.ltP h.ne)).trans h.ptr, ⟨_, _, heap_setChan w C n _ false _ _ false h.ltC⟩, by simp; omega⟩⟩
  · refine (putFullS P C n s r _ x w h.ptr hc (by simpa using hn)).mono ?_
    rintro e w' ⟨rfl, rfl⟩
    rw [decide_eq_false hn, if_neg hn]
    exact ⟨rfl, Turn.refl _ _, h⟩
/-- Take: the first one. -/
theorem takeS (n P C : Nat) (x : ByteArray) (xs : List ByteArray) (w : World) (h : Pip Value.string n P C (x :: xs) w) : Calls Try.prog 19 #[.pointer (some ⟨P, 0, none⟩)] w fun e w' =>
    e = .returned (.tuple #[Value.string x, .bool true]) ∧ Turn C w w' ∧ Pip Value.string n P C xs w' := by
  obtain ⟨s, r, hc⟩ := h.chan
  refine (takeSomeS P C n s r _ w h.ptr hc (Value.string x) (by simp) (by simp)).mono ?_
  rintro e w' ⟨rfl, rfl⟩
  rw [map_pop]
  exact ⟨rfl, Turn.chan w, ⟨(cell_of_block ((Turn.chan (C := C) w).block P h.ltP h.ne)).trans h.ptr, ⟨_, _, heap_setChan w C n _ false _ _ false h.ltC⟩, by have := h.size; simp at this; omega⟩⟩
theorem takeNilS (n P C : Nat) (w : World) (h : Pip Value.string n P C [] w) : Calls Try.prog 19 #[.pointer (some ⟨P, 0, none⟩)] w fun e w' =>
    e = .returned (.tuple #[.string ⟨#[]⟩, .bool false]) ∧ w' = w := by
  obtain ⟨s, r, hc⟩ := h.chan
  exact takeNoneS P C n s r w h.ptr hc
theorem lenS (n P C : Nat) (xs : List ByteArray) (w : World) (h : Pip Value.string n P C xs w) : Calls Try.prog 22 #[.pointer (some ⟨P, 0, none⟩)] w fun e w' => e = .returned (.int .i64 xs.length) ∧ Below w.heap.size w w' := by
  obtain ⟨s, r, hc⟩ := h.chan
  have hp := h.ptr
  have hl := run_len_chan (P := Try.prog) (w := w) 56 3 Try.underlying56 hc
  rw [show goInt (xs.map Value.string).toArray.size = .int .i64 xs.length from by simp [goInt]] at hl
  go_enter Try.func22, Try.ntmps22
  go_wp2_with fail
  go_ret
  exact ⟨rfl, Below.refl _ _⟩
theorem roomS (n P C : Nat) (xs : List ByteArray) (w : World) (h : Pip Value.string n P C xs w) (hn : n ≤ 4096) : Calls Try.prog 24 #[.pointer (some ⟨P, 0, none⟩)] w fun e w' => e = .returned (.int .i64 (n - xs.length : Nat)) ∧ Below w.heap.size w w' := by
  obtain ⟨s, r, hc⟩ := h.chan
  have hp := h.ptr
  have hs := h.size
  have hl : ∀ m, (Builtin.len_ #[56] 3 #[.chan (some C)]).run Try.prog (w.drewN m) = .ok (.int .i64 xs.length) (w.drewN m) := by
    intro m
    have := run_len_chan (P := Try.prog) (w := w.drewN m) 56 3 Try.underlying56 ((congrArg (·[C]?) (World.heap_drewN w m)).trans hc)
    rw [show goInt (xs.map Value.string).toArray.size = .int .i64 xs.length from by simp [goInt]] at this
    exact this
  have hq : ∀ m, (Builtin.cap_ #[56] 3 #[.chan (some C)]).run Try.prog (w.drewN m) = .ok (.int .i64 n) (w.drewN m) := fun m =>
    run_cap_chan (P := Try.prog) (w := w.drewN m) 56 3 Try.underlying56 ((congrArg (·[C]?) (World.heap_drewN w m)).trans hc)
  have ew : IntKind.i64.wrap ((n : Int) - (xs.length : Int)) = ((n - xs.length : Nat) : Int) := by rw [IntWalk.i64_in _ (by omega)]; omega
  go_enter Try.func24, Try.ntmps24
  go_wp2_with fail
  go_quiet (fail)
  go_wp2_with fail
  go_ret
  exact ⟨rfl, pw_below_drewN (Below.refl _ _) _⟩
set_option maxRecDepth 100000 in
theorem fillS (n P C : Nat) (xs : List ByteArray) (A : Option Addr) (c : Nat) (l : List ByteArray) (w : World) (h : Pip Value.string n P C xs w) (hl : Kd.string.C w A l.length l) : Calls Try.prog 23 #[.pointer (some ⟨P, 0, none⟩), .slice A l.length c] w fun e w' =>
    e = .returned (.int .i64 (min l.length (n - xs.length) : Nat)) ∧ Turn C w w' ∧ Pip Value.string n P C (xs ++ l.take (n - xs.length)) w' ∧ Kd.string.C w' A l.length l := by
  have H := hide h
  have HL := hide hl
  have hs := h.size
  have hmax := hl.2.1
  clear h hl
  go_enter Try.func23, Try.ntmps23
  go_wp2_with fail
  go_loopw [9] (fun i wr => ∃ k : Nat, k ≤ l.length ∧ k ≤ n - xs.length ∧ i = .int .i64 k ∧ Aside0 (Pip Value.string n P C (xs ++ l.take k) wr) ∧ Aside0 (Turn C w wr) ∧ Aside0 (Kd.string.C wr A l.length l)) (fun i _ => l.length - (intOf i).toNat)
  case atStart => exact ⟨0, by omega, by omega, rfl, ⟨by simpa using H.out⟩, ⟨Turn.refl _ _⟩, ⟨HL.out⟩⟩
  case round =>
    clear H HL
    obtain ⟨k, hk, hk2, rfl, HP, HT, HL⟩ := hrel
    by_cases hlt : k < l.length
    · have hi1 : (k : Int) < l.length := by omega
      have hi0 : (0 : Int) ≤ k := by omega
      obtain ⟨ad, cs, rfl, hcs, hK, hcell⟩ := Kd.C_get HL.out (⟨#[]⟩ : ByteArray) (k : Int) hi0 hi1
      have hcs2 : cs = [Value.string (l.getD k (⟨#[]⟩ : ByteArray))] := hK
      subst hcs2
      have h0 := hcell 0 _ rfl
      rw [show (k : Int).toNat * Kd.string.sz + 0 = k from by show (k : Int).toNat * 1 + 0 = k; omega] at h0
      clear hcell hK hcs
      obtain ⟨x, hx⟩ : ∃ x, l.getD k (⟨#[]⟩ : ByteArray) = x := ⟨_, rfl⟩
      rw [hx] at h0
      have hput := putS n P C (xs ++ l.take k) x wr HP.out
      rw [show (xs ++ l.take k).length = xs.length + k from by simp; omega] at hput
      have HX := hide hx
      clear hx
      go_wp2_with fail
      by_cases hroom : xs.length + k < n
      · rw [decide_eq_true hroom, if_pos hroom] at hput
        refine hput.mono ?_
        rintro e w1 ⟨rfl, ht, hp⟩
        rw [List.append_assoc, ← HX.out, ← take_succ l k hlt (⟨#[]⟩ : ByteArray)] at hp
        have HP1 := hide hp
        have HT1 := hide (HT.out.trans ht)
        have HL1 := hide (C_turn HP.out ht (⟨#[]⟩ : ByteArray) HL.out)
        clear hp ht hput HX HP HT HL h0
        dsimp only
        go_wp2_with fail
        go_roundw
        case rel => exact ⟨k + 1, by omega, by omega, by go_num, ⟨HP1.out⟩, ⟨HT1.out⟩, ⟨HL1.out⟩⟩
        case measure => simp only [intOf]; omega
      · rw [decide_eq_false hroom, if_neg hroom] at hput
        refine hput.mono ?_
        rintro e w1 ⟨rfl, ht, hp⟩
        have HP1 := hide hp
        have HT1 := hide (HT.out.trans ht)
        have HL1 := hide (C_turn HP.out ht (⟨#[]⟩ : ByteArray) HL.out)
        clear hp ht hput HX HP HT HL h0
        have hkn : k = n - xs.length := by omega
        subst hkn
        dsimp only
        go_wp2_with fail
        go_ret
        exact ⟨by rw [Nat.min_eq_right hk]; rfl, HT1.out, HP1.out, HL1.out⟩
    · have hkl : k = l.length := by omega
      subst hkl
      go_wp2_with fail
      go_ret
      refine ⟨by rw [Nat.min_eq_left hk2]; rfl, HT.out, ?_, HL.out⟩
      rw [List.take_of_length_le hk2]
      have := HP.out
      rwa [List.take_length] at this
theorem infozS : (Try.prog.info? 9).map (fun i => (i.zero, i.size, i.bytes)) = some (some (.string ⟨#[]⟩), 1, 16) := by kernel_rfl
set_option maxHeartbeats 1000000 in
set_option maxRecDepth 100000 in
theorem drainS (n P C : Nat) (xs : List ByteArray) (w : World) (h : Pip Value.string n P C xs w) (hn : n ≤ 4096) : Calls Try.prog 20 #[.pointer (some ⟨P, 0, none⟩)] w fun e w' =>
    ∃ v, e = .returned v ∧ Kd.string.R 9 w' w.heap.size (fun _ => True) v xs ∧ Turn C w w' ∧ Pip Value.string n P C [] w' := by
  have H := hide h
  have hs := h.size
  have hP := h.ltP
  clear h
  go_enter Try.func20, Try.ntmps20
  go_wp2_with fail
  go_loopw [3] (fun v wr => ∃ ys zs : List ByteArray, Aside0 (xs = ys ++ zs) ∧ Aside0 (Kd.string.R 9 wr w.heap.size (fun _ => True) v ys) ∧ Aside0 (Pip Value.string n P C zs wr) ∧ Aside0 (Turn C w wr)) (fun _ wr => inLine wr C)
  case atStart => exact ⟨[], xs, ⟨rfl⟩, ⟨Kd.R_nil _ _ _ _ _⟩, ⟨H.out⟩, ⟨Turn.refl _ _⟩⟩
  case round =>
    clear H
    obtain ⟨ys, zs, HE, HO, HP, HT⟩ := hrel
    match zs, HE, HP with
    | [], HE, HP =>
      have htake := takeNilS n P C wr HP.out
      go_wp2_with fail
      refine htake.mono ?_
      rintro e w1 ⟨rfl, rfl⟩
      dsimp only
      go_wp2_with fail
      go_ret
      refine ⟨_, rfl, ?_, HT.out, HP.out⟩
      rw [HE.out, List.append_nil]
      exact HO.out
    | z :: zs, HE, HP =>
      have htake := takeS n P C z zs wr HP.out
      have hylen : ys.length + zs.length + 1 ≤ n := by have := congrArg List.length HE.out; simp at this; omega
      have HM := hide HP.out.inLine
      go_wp2_with fail
      refine htake.mono ?_
      rintro e w1 ⟨rfl, ht, hp⟩
      have HO1 := hide (R_turn HP.out ht HO.out)
      have HT1 := hide (HT.out.trans ht)
      have HP1 := hide hp
      have HB1 := hide (show Below w.heap.size w1 w1 from Below.refl _ _)
      have hz1 : w.heap.size ≤ w1.heap.size := HT1.out.size
      clear ht hp htake HO HP HT
      dsimp only
      go_wp2_with (at_builtin; refine Kd.R_append Kd.string (w0 := w1) w.heap.size rfl (.tmp 14) (.tmp 16) 40 9 (.string ⟨#[]⟩) 16 rfl Try.underlying40 infozS rfl (by decide) (by decide) _ ys z [Value.string z] (fun _ => True) (fun _ => False) rfl rfl rfl (fun k hk => hk.elim) (fun _ _ => trivial) HO1.out HB1.out hz1 (by omega) ?_; intro v1 w3 ho hb hg hown; have HO3 := hide ho; have HG := hide hg; clear ho hb hg hown)
      have hP3 := hide (HP1.out.grown HG.out (fun e => by have := Kd.R_base HO1.out _ e.symm; omega) (R_apart HP1.out HO1.out))
      have hT3 := hide (HT1.out.grown HG.out (fun k e => Kd.R_base HO1.out _ e))
      go_roundw
      case rel => exact ⟨ys ++ [z], zs, ⟨by rw [HE.out]; simp⟩, ⟨HO3.out⟩, ⟨hP3.out⟩, ⟨hT3.out⟩⟩
      case measure => show inLine w3 C < inLine wr C; rw [hP3.out.inLine, HM.out]; simp
end Go.Proofs.Ytomfcaddlmkaoaa.Pipe
