/- The document's own writing of numbers and texts: the walks of arbourlaw16.four and text. -/
import Derived.Test.YtbljbgjecnmeeaaDoorOpEnc
import Derived.Test.YtbljbgjecnmeeaaDoorPOpTellsx6
namespace Go.Proofs.YtbljbgjecnmeeaaDoor.OpP
open Go.RowKit Go.Proofs.YtbljbgjecnmeeaaDoor.POpTells Go.Proofs.YtbljbgjecnmeeaaDoorW.PrintWords Go.Proofs.YtbljbgjecnmeeaaDoorW.PrintLast Go.Proofs.YtbljbgjecnmeeaaDoorW.PrintMore
set_option linter.unusedVariables false
set_option linter.unusedSimpArgs false
theorem info5B : (Tryd.prog.info? 5).map (fun i => (i.zero, i.size, i.bytes)) = some (some (.int .u8 0), 1, 1) := by kernel_rfl
/-- A row of bytes known whole. -/
theorem litB_C {w : World} {g : Nat} (xs : List Int) (hl : xs.length ≤ 9223372036854775807) (h : w.heap[g]? = some (.cells (xs.map (Value.int .u8)).toArray 5 (0, 0))) : kB.C w (some ⟨g, 0, none⟩) xs.length xs := by
  refine ⟨rfl, hl, fun _ => ⟨_, rfl, fun i y hy => ?_⟩⟩
  refine ⟨[.int .u8 y], rfl, rfl, fun j u hu => ?_⟩
  match j, hu with
  | 0, hu =>
    have hu' : Value.int .u8 y = u := by simpa using hu
    subst hu'
    have hc := cell_of_row w g i _ _ _ h
    rw [add_at, show 0 + (i * kB.sz + 0) = i from by show 0 + (i * 1 + 0) = i; omega, hc]
    simp [hy]
section
variable {ops : Array Oper} {rest : List Oper} {o : Oper} {a : Act} {Q : Exit → Act → World → Prop}
/-- append(b, ys...), rows of bytes. -/
theorem appB {w W : World} (s x : Operand) (hgd : o.guard = none) (ho : o.op = .call { callee := .builtin .append, args := #[s, x], argTypes := #[36, 36] }) {v : Value} {l ys : List Int} {A : Option Addr} {m c : Nat} (hs : a.eval s = v) (hx : a.eval x = .slice A m c) (hR : Row w v l W) (hC : kB.C W A m ys) (hl : l.length + m ≤ 100000000000000)
    (h : ∀ v1 w1, Row w v1 (l ++ ys) w1 → Bes W w1 → wpList Tryd.prog ops Q rest (a.put o.dst v1) w1) : wpList Tryd.prog ops Q (o :: rest) a W := by
  obtain ⟨A0, c0, rfl, hr, hb⟩ := hR
  refine Kd.R_append_rows kB (Rr := kB.K W) (w0 := w) w.heap.size hgd s x 36 5 (.int .u8 0) 1 ho Tryd.underlying36 info5B rfl (by decide) (by decide) _ l ys A m c (fun _ => True) (fun _ => False) hs hx hr hC (fun _ _ h => h) (fun _ h => h.elim) (fun _ _ => trivial) hb hb.size (by omega) ?_
  intro v1 w1 hr1 hb1 hg _
  obtain ⟨A1, c1, rfl⟩ := Kd.R_slice hr1
  exact h _ w1 ⟨A1, c1, rfl, hr1, hb1⟩ (kept_bes hr (Kept.of_grown hg (Kept.refl W _) (fun k e => .inl e.symm)))
/-- append(b, s...), s a string. -/
theorem appS {w W : World} (s x : Operand) (hgd : o.guard = none) (ho : o.op = .call { callee := .builtin .append, args := #[s, x], argTypes := #[36, 9] }) {v : Value} {l : List Int} {y : ByteArray} (hs : a.eval s = v) (hx : a.eval x = .string y) (hR : Row w v l W) (hl : l.length + y.size ≤ 100000000000000)
    (h : ∀ v1 w1, Row w v1 (l ++ bytesOf y) w1 → Bes W w1 → wpList Tryd.prog ops Q rest (a.put o.dst v1) w1) : wpList Tryd.prog ops Q (o :: rest) a W := by
  obtain ⟨A0, c0, rfl, hr, hb⟩ := hR
  refine print_append_str (w0 := w) w.heap.size hgd s x 36 9 5 ho Tryd.underlying36 Tryd.underlying9 info5B _ l y hs hx (Kd.own_of_R hr) hb hb.size (by omega) ?_
  intro v2 w2 ho2 hb2 hg
  have ho' : w2.ownsRow w.heap.size 5 1 v2 (l ++ bytesOf y).length (nums IntKind.u8 (l ++ bytesOf y)) := by first | exact ho2 | (rw [List.length_append]; exact ho2)
  have hR2 : Kd.R kB 5 w2 w.heap.size (fun _ => True) v2 (l ++ bytesOf y) := Kd.R_of_own (h1 := fun _ => rfl) (ok := fun _ => True) ho' (fun _ _ => trivial)
  obtain ⟨A2, c2, rfl⟩ := Kd.R_slice hR2
  exact h _ w2 ⟨A2, c2, rfl, hR2, hb2⟩ (kept_bes hr (Kept.of_grown hg (Kept.refl W _) (fun k e => .inl e.symm)))
end
theorem bes_alloc (w : World) (o : Obj) : Bes w (w.alloc o) := fun S cs t hs _ => ((below_alloc (Below.refl w.heap.size w) o).block _ (blk_lt hs)).trans hs
theorem bes_below {w w1 w2 : World} (h : Bes w w1) (hb : Below w1.heap.size w1 w2) : Bes w w2 := fun S cs t hs ht => (hb.block _ (blk_lt (h S cs t hs ht))).trans (h S cs t hs ht)
theorem four_eq (n : Int) : [(n / 16777216) % 256, (n / 65536) % 256, (n / 256) % 256, n % 256] = be n 4 := by
  unfold be be be be be
  rw [show (256 : Int) ^ 3 = 16777216 from by decide, show (256 : Int) ^ 2 = 65536 from by decide, show (256 : Int) ^ 1 = 256 from by decide, show (256 : Int) ^ 0 = 1 from by decide, Int.ediv_one]
theorem three_eq (n : Int) : [(n / 65536) % 256, (n / 256) % 256, n % 256] = be n 3 := by
  unfold be be be be
  rw [show (256 : Int) ^ 2 = 65536 from by decide, show (256 : Int) ^ 1 = 256 from by decide, show (256 : Int) ^ 0 = 1 from by decide, Int.ediv_one]
theorem two_eq (n : Int) : [(n / 256) % 256, n % 256] = be n 2 := by
  unfold be be be
  rw [show (256 : Int) ^ 1 = 256 from by decide, show (256 : Int) ^ 0 = 1 from by decide, Int.ediv_one]
theorem one_eq (n : Int) : [n % 256] = be n 1 := by
  unfold be be
  rw [show (256 : Int) ^ 0 = 1 from by decide, Int.ediv_one]
theorem Row.four {w : World} {v : Value} {l : List Int} {wr : World} (h : Row w v l wr) (n : Int) (hl : l.length + 4 < 140737488355328) : Calls Tryd.prog 35 #[v, .int .i64 n] wr (WrP w wr (l ++ be n 4)) := by
  obtain ⟨A, c, rfl, hR, hB⟩ := h
  have hf : arbourlaw16_four.f l n = some (l ++ be n 4) := by
    unfold arbourlaw16_four.f
    rw [four_eq, Option.bind_some, if_pos (by rw [be_length]; omega)]
  refine (arbourlaw16_four.calls (fun k => some k = (.slice A l.length c : Value).ownBlock) _ l n _ w wr hB (Kd.R_tight rfl hR) hf).mono ?_
  rintro e w' ⟨v', rfl, hr, hb, hk⟩
  obtain ⟨A', c', rfl⟩ := Kd.R_slice hr
  exact ⟨_, rfl, ⟨A', c', rfl, Kd.R_mono hr (fun _ _ => trivial), hb⟩, kept_bes hR hk⟩
set_option maxHeartbeats 4000000 in
set_option maxRecDepth 100000 in
theorem Row.rtext {w : World} {v : Value} {l : List Int} {wr : World} (h : Row w v l wr) (s : ByteArray) (hl : l.length + s.size + 4 ≤ 100000000000) : Calls Tryd.prog 36 #[v, .string s] wr (WrP w wr (l ++ OpP.txt s)) := by
  have b1 := below_alloc (Below.refl wr.heap.size wr) (.cells #[.int .u8 ((s.size : Int) / 65536 % 256), .int .u8 ((s.size : Int) / 256 % 256), .int .u8 ((s.size : Int) % 256)] 5)
  have hR1 := h.below b1
  have hL := heap_alloc_new wr (.cells #[.int .u8 ((s.size : Int) / 65536 % 256), .int .u8 ((s.size : Int) / 256 % 256), .int .u8 ((s.size : Int) % 256)] 5)
  have hC := litB_C [(s.size : Int) / 65536 % 256, (s.size : Int) / 256 % 256, (s.size : Int) % 256] (by simp) hL
  rw [three_eq, be_length] at hC
  have HR1 := hide hR1
  have HC := hide hC
  have HBS := hide (bes_alloc wr (.cells #[.int .u8 ((s.size : Int) / 65536 % 256), .int .u8 ((s.size : Int) / 256 % 256), .int .u8 ((s.size : Int) % 256)] 5))
  have HL := hide hl
  have e2 : (l ++ be (s.size : Int) 3) ++ bytesOf s = l ++ OpP.txt s := by unfold OpP.txt; rw [List.append_assoc]
  have HE := hide e2
  clear b1 hR1 hL hC h hl e2
  go_enter Tryd.func36, Tryd.ntmps36
  go_wp2_with (first | (at_builtin; refine appB (w := w) (.tmp 5) (.tmp 17) rfl rfl (l := l) (ys := be (s.size : Int) 3) rfl rfl HR1.out HC.out (by have := HL.out; omega) ?_; intro v1 w1 hr1 hs1; have HR2 := hide hr1; have HS2 := hide hs1; clear hr1 hs1) | (at_builtin; refine appS (w := w) (.tmp 18) (.tmp 19) rfl rfl rfl rfl HR2.out (by have := HL.out; rw [List.length_append, be_length]; omega) ?_; intro v2 w2 hr2 hs2; have HR3 := hide hr2; have HS3 := hide hs2; clear hr2 hs2))
  go_ret
  exact ⟨_, rfl, by rw [← HE.out]; exact HR3.out, (HBS.out.trans HS2.out).trans HS3.out⟩
end Go.Proofs.YtbljbgjecnmeeaaDoor.OpP
