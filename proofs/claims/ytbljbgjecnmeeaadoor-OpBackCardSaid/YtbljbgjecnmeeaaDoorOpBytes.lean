/- Numbers and texts written as bytes: the walks of op.put and op.text. -/
import Derived.Test.YtbljbgjecnmeeaaDoorOpPure
import Derived.Test.YtbljbgjecnmeeaaDoorOpsA
namespace Go.Proofs.YtbljbgjecnmeeaaDoor.OpP
open Go.RowKit Go.Proofs.YtbljbgjecnmeeaaDoor.POpTells Go.Proofs.YtbljbgjecnmeeaaDoorW.PrintWords Go.Proofs.YtbljbgjecnmeeaaDoorW.PrintLast Go.Proofs.YtbljbgjecnmeeaaDoorW.PrintMore
set_option linter.unusedVariables false
set_option linter.unusedSimpArgs false
/-- A number as so many bytes, the highest first. -/
def be (n : Int) : Nat → List Int
  | 0 => []
  | k + 1 => (n / 256 ^ k) % 256 :: be n k
/-- A text, its length ahead. -/
def txt (s : ByteArray) : List Int := be (s.size : Int) 3 ++ bytesOf s
theorem be_length (n : Int) : ∀ k, (be n k).length = k
  | 0 => rfl
  | k + 1 => by unfold be; rw [List.length_cons, be_length n k]
theorem txt_length (s : ByteArray) : (txt s).length = 3 + s.size := by
  unfold txt
  rw [List.length_append, be_length, bytesOf_length]
theorem shr_pow (n : Int) (j : Nat) (h : j < 4) : shr .i64 n (wrap64 (8 * (j : Int))) = n / 256 ^ j := by
  match j, h with
  | 0, _ => unfold shr; rw [show min (wrap64 (8 * ((0 : Nat) : Int))).toNat IntKind.i64.bits = 0 from by decide +kernel, show (2 : Int) ^ 0 = 256 ^ 0 from by decide]
  | 1, _ => unfold shr; rw [show min (wrap64 (8 * ((1 : Nat) : Int))).toNat IntKind.i64.bits = 8 from by decide +kernel, show (2 : Int) ^ 8 = 256 ^ 1 from by decide]
  | 2, _ => unfold shr; rw [show min (wrap64 (8 * ((2 : Nat) : Int))).toNat IntKind.i64.bits = 16 from by decide +kernel, show (2 : Int) ^ 16 = 256 ^ 2 from by decide]
  | 3, _ => unfold shr; rw [show min (wrap64 (8 * ((3 : Nat) : Int))).toNat IntKind.i64.bits = 24 from by decide +kernel, show (2 : Int) ^ 24 = 256 ^ 3 from by decide]
theorem put_loop (n : Int) : ∀ (j : Nat) (x0 : List Int) (k : Nat), j ≤ 4 → x0.length + j < 140737488355328 → j < k → op_put.l0 k x0 n ((j : Int) - 1) = some (x0 ++ be n j)
  | 0, x0, k, _, _, hk => by
    obtain ⟨k, rfl⟩ : ∃ m, k = m + 1 := ⟨k - 1, by omega⟩
    rw [op_put.l0, if_neg (by omega), be, List.append_nil]
  | j + 1, x0, k, hj, hl, hk => by
    obtain ⟨k, rfl⟩ : ∃ m, k = m + 1 := ⟨k - 1, by omega⟩
    have e1 : ((j + 1 : Nat) : Int) - 1 = (j : Int) := by omega
    have e2 : wrap64 ((j : Int) - 1) = (j : Int) - 1 := by unfold wrap64; omega
    have e3 : 0 ≤ wrap64 (8 * (j : Int)) := by unfold wrap64; omega
    rw [e1, op_put.l0, if_pos (by omega), if_pos e3, if_pos (by omega), shr_pow n j (by omega), e2, put_loop n j _ k (by omega) (by rw [List.length_append]; simp; omega) (by omega), be]
    simp
theorem put_some (l : List Int) (n : Int) (s : Nat) (hs : s ≤ 4) (hl : l.length + 4 < 140737488355328) : op_put.f 5 l n (s : Int) = some (l ++ be n s) := by
  unfold op_put.f
  have e : wrap64 ((s : Int) - 1) = (s : Int) - 1 := by unfold wrap64; omega
  rw [e]
  exact put_loop n s l 5 hs (by omega) (by omega)
/-- What is no row of bytes stays. -/
def Bes (w w' : World) : Prop := ∀ (S : Nat) (cs : Array Value) (t : TypeId), w.heap[S]? = some (.cells cs t (0, 0)) → t ≠ 5 → w'.heap[S]? = some (.cells cs t (0, 0))
theorem Bes.refl (w : World) : Bes w w := fun _ _ _ h _ => h
theorem Bes.trans {a b c : World} (h : Bes a b) (k : Bes b c) : Bes a c := fun S cs t hs ht => k S cs t (h S cs t hs ht) ht
/-- A row of bytes is handed back. -/
def ByP (w0 w : World) (l : List Int) (e : Ending) (w' : World) : Prop := ∃ (A : Option Addr) (c : Nat), e = .returned (.slice A l.length c) ∧ Kd.R (Kd.int .u8) 5 w' w0.heap.size (fun _ => True) (.slice A l.length c) l ∧ Below w0.heap.size w0 w' ∧ Bes w w'
theorem kept_bes {w w' : World} {w0 : Nat} {ok : Nat → Prop} {v : Value} {l : List Int} (hR : Kd.R (Kd.int .u8) 5 w w0 ok v l) (hk : Kept w w' (fun k => some k = v.ownBlock)) : Bes w w' := fun S cs t hs ht =>
  (hk.2 S (blk_lt hs) (fun e => Kd.R_ne hR hs (Ne.symm ht) e)).trans hs
theorem putC (w0 w : World) (v : Value) (l : List Int) (n : Int) (s : Nat) (hB : Below w0.heap.size w0 w) (hR : Kd.R (Kd.int .u8) 5 w w0.heap.size (fun _ => True) v l) (hs : s ≤ 4) (hl : l.length + 4 < 140737488355328) :
    Calls Tryd.prog 31 #[v, .int .i64 n, .int .i64 (s : Int)] w (ByP w0 w (l ++ be n s)) := by
  refine (op_put.calls 5 (fun k => some k = v.ownBlock) v l n (s : Int) (l ++ be n s) w0 w hB (Kd.R_tight rfl hR) (put_some l n s hs hl)).mono ?_
  rintro e w' ⟨v', rfl, hr, hb, hk⟩
  obtain ⟨A, c, rfl⟩ := Kd.R_slice hr
  exact ⟨A, c, rfl, Kd.R_mono hr (fun _ _ => trivial), hb, kept_bes hR hk⟩
set_option maxHeartbeats 4000000 in
set_option maxRecDepth 100000 in
theorem textC (w0 w : World) (v : Value) (l : List Int) (s : ByteArray) (hB : Below w0.heap.size w0 w) (hR : Kd.R (Kd.int .u8) 5 w w0.heap.size (fun _ => True) v l) (hl : l.length + s.size + 4 < 140737488355328) :
    Calls Tryd.prog 32 #[v, .string s] w (ByP w0 w (l ++ txt s)) := by
  obtain ⟨A0, c0, rfl⟩ := Kd.R_slice hR
  have HP := hide (putC w0 w (.slice A0 l.length c0) l (s.size : Int) 3 hB hR (by omega) (by omega))
  have hl2 : (l ++ be (s.size : Int) 3).length + s.size < 140737488355328 := by rw [List.length_append, be_length]; omega
  have e2 : (l ++ be (s.size : Int) 3) ++ bytesOf s = l ++ txt s := by unfold txt; rw [List.append_assoc]
  obtain ⟨m, hm⟩ : ∃ m, l ++ be (s.size : Int) 3 = m := ⟨_, rfl⟩
  rw [hm] at HP hl2 e2
  have HL := hide hl2
  have HE := hide e2
  clear hB hR hl hl2 e2 hm
  go_enter Tryd.func32, Tryd.ntmps32
  go_wp2_with fail
  refine HP.out.mono ?_
  rintro e w1 ⟨A, c, rfl, hR1, hB1, hS1⟩
  dsimp only
  have HR1 := hide hR1
  have HB1 := hide hB1
  have HS1 := hide hS1
  clear hR1 hB1 hS1 HP
  go_wp2_with (at_builtin; refine print_append_str (w0 := w0) w0.heap.size rfl (.tmp 8) _ 36 9 5 rfl Tryd.underlying36 Tryd.underlying9 info5 _ m s rfl rfl ?aO ?aB ?aS ?aL ?_)
  case aO => exact Kd.own_of_R HR1.out
  case aB => exact HB1.out
  case aS => exact HB1.out.size
  case aL => have := HL.out; omega
  intro v2 w2 ho hb hg
  have ho' : w2.ownsRow w0.heap.size 5 1 v2 (m ++ bytesOf s).length (nums IntKind.u8 (m ++ bytesOf s)) := by rw [List.length_append]; exact ho
  rw [HE.out] at ho'
  have hR2 : Kd.R (Kd.int .u8) 5 w2 w0.heap.size (fun _ => True) v2 (l ++ txt s) := Kd.R_of_own (h1 := fun _ => rfl) (ok := fun _ => True) ho' (fun _ _ => trivial)
  obtain ⟨A2, c2, rfl⟩ := Kd.R_slice hR2
  have HR2 := hide hR2
  have HB2 := hide hb
  have HS2 := hide (kept_bes HR1.out (Kept.of_grown hg (Kept.refl w1 _) (fun k e => .inl e.symm)))
  clear ho ho' hR2 hb hg
  go_wp2_with fail
  go_ret
  exact ⟨A2, c2, rfl, HR2.out, HB2.out, HS1.out.trans HS2.out⟩
end Go.Proofs.YtbljbgjecnmeeaaDoor.OpP
