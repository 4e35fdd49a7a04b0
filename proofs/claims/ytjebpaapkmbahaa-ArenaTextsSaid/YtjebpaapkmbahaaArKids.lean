/- The arena's Kids; add and New. -/
import Derived.Test.YtjebpaapkmbahaaArRead
namespace Go.Proofs.Ytjebpaapkmbahaa.Ar
open Go.RowKit Go.Proofs.Ytjebpaapkmbahaa.PArenaPlays Go.Proofs.YtjebpaapkmbahaaW.PrintWords Go.Proofs.YtjebpaapkmbahaaW.PrintLast
set_option linter.unusedVariables false
set_option linter.unusedSimpArgs false
abbrev kI : Kd Int := Kd.int .i64
/-- The nodes one behind the other. -/
inductive Kc (l : List S72) : Int → List Nat → Prop
  | nil : Kc l (-1) []
  | cons {n : Nat} {xs : List Nat} (hn : n < l.length) (t : Kc l (nd l n).f5 xs) : Kc l (n : Int) (n :: xs)
theorem lit1_int {w : World} {g : Nat} {ty : TypeId} {fr : Nat × Nat} {n : Int} (h : w.heap[g]? = some (.cells #[.int .i64 n] ty fr)) : kI.C w (some ⟨g, 0, none⟩) 1 [n] := by
  refine ⟨rfl, by simp, fun _ => ⟨_, rfl, fun j p hj => ?_⟩⟩
  match j, hj with
  | 0, hj =>
    cases hj
    refine ⟨[.int .i64 n], rfl, rfl, fun i u hu => ?_⟩
    match i, hu with
    | 0, hu =>
      have ea : ∀ m, (⟨g, 0, none⟩ : Addr).add m = ⟨g, m, none⟩ := by intro m; unfold Addr.add; split <;> simp_all
      rw [← hu, ea, cell_of_row w g _ _ _ _ h]
      rfl
theorem kids_no {w : World} {N g gl cap : Nat} {l : List S72} {q : Bool} (h : AO w N g gl cap l q) (n : Int) (hn : ¬ (0 ≤ n ∧ n < (l.length : Int))) :
    Calls Try.prog 21 #[.pointer (some ⟨g, 0, none⟩), .int .i64 n] w fun e w' => e = .returned (.slice none 0 0) ∧ w = w' := by
  have HI := hide (is_no h n hn)
  clear h hn
  go_enter Try.func21, Try.ntmps21
  go_wp2_with (go_at_call 42; (with_reducible refine HI.out.mono ?_); rintro e w' ⟨rfl, rfl⟩)
  go_ret
  exact ⟨rfl, rfl⟩
set_option maxHeartbeats 4000000 in
set_option maxRecDepth 100000 in
theorem kids {w : World} {N g gl cap : Nat} {l : List S72} {q : Bool} (h : AO w N g gl cap l q) (n : Nat) (hn : n < l.length) {xs : List Nat} (hk : Kc l (nd l n).f2 xs) (hx : xs.length ≤ 1000000) :
    Calls Try.prog 21 #[.pointer (some ⟨g, 0, none⟩), .int .i64 (n : Int)] w fun e w' => ∃ v, e = .returned v ∧ kI.R 3 w' w.heap.size (fun _ => True) v (xs.map Int.ofNat) ∧ Below w.heap.size w w' := by
  have HI := hide (is_yes h n hn)
  obtain ⟨v3, v5, hN, _, _⟩ := h.elem n hn
  have c0 := h.c0
  have x7 := hN.c7
  have hn1 : (n : Int) < (l.length : Int) := by omega
  obtain ⟨u, hu⟩ : ∃ u, (nd l n).f2 = u := ⟨_, rfl⟩
  rw [hu] at x7 hk
  have HO := hide h
  have HK := hide hk
  have HX := hide hx
  clear h hN hu hn hk hx
  go_enter Try.func21, Try.ntmps21
  go_wp2_with (go_at_call 42; (with_reducible refine HI.out.mono ?_); rintro e w' ⟨rfl, rfl⟩)
  clear x7 hn1 HI c0
  go_loopw [5, 6] (fun v i wr => ∃ (m : Int) (done rest : List Nat), i = .int .i64 m ∧ Aside0 (xs = done ++ rest) ∧ Aside0 (Kc l m rest) ∧ Aside0 (kI.R 3 wr w.heap.size (fun _ => True) v (done.map Int.ofNat)) ∧ Aside0 (Below w.heap.size w wr)) (fun v _ _ => xs.length - (match v with | .slice _ n _ => n | _ => 0))
  case atStart => exact ⟨u, [], xs, rfl, ⟨rfl⟩, ⟨HK.out⟩, ⟨Kd.R_nil _ _ _ _ _⟩, ⟨Below.refl _ _⟩⟩
  case round =>
    clear HK
    obtain ⟨m, done, rest, rfl, hd, hk, hR, hB⟩ := hrel
    have HD := hide hd.out
    have HR := hide hR.out
    have HB := hide hB.out
    have hk' := hk.out
    clear hd hk hR hB
    obtain ⟨Ad, cd, hv⟩ := Kd.R_slice HR.out
    subst hv
    cases hk' with
    | nil =>
      go_wp2
      go_ret
      refine ⟨_, rfl, ?_, HB.out⟩
      rw [HD.out, List.append_nil]
      exact HR.out
    | @cons m rest hm t =>
      have e1 : ((m : Int) == -1) = false := by rw [beq_eq_false_iff_ne]; omega
      have e2 : ((m : Int) != -1) = true := by rw [bne_iff_ne]; omega
      have hm1 : (m : Int) < (l.length : Int) := by omega
      have HT := hide t
      have HM := hide hm
      have HL := hide (show done.length + 1 ≤ xs.length by rw [HD.out, List.length_append, List.length_cons]; omega)
      have ba := below_alloc (Below.refl wr.heap.size wr) (.cells #[.int .i64 (m : Int)] 3)
      have HA := hide ba
      have HN := hide (heap_alloc_new wr (.cells #[.int .i64 (m : Int)] 3))
      clear t hm ba
      go_wp2_with (at_builtin; refine Kd.R_append_rows kI (Rr := kI.K (wr.alloc (.cells #[.int .i64 (m : Int)] 3))) (w0 := w) w.heap.size rfl (.tmp 30) (.tmp 32) 43 3 (.int .i64 0) 8 rfl Try.underlying43 info3 rfl (by decide) (by decide) _ (done.map Int.ofNat) [(m : Int)] (some ⟨wr.heap.size, 0, none⟩) 1 1 (fun _ => True) (fun _ => False) rfl rfl (Kd.R_below HR.out HA.out) (lit1_int HN.out) (fun _ _ h => h) (fun k hk => hk.elim) (fun _ _ => trivial) (below_step HB.out HA.out) (below_step HB.out HA.out).size (by have h1 := HL.out; have h2 := HX.out; rw [List.length_map]; omega) ?_; intro v1 w3 ho hb hg hown; have HO1 := hide ho; have HB1 := hide hb; clear ho hb hg hown; have h3 := HO.out.below HB1.out; obtain ⟨y3, y5, hN, _, _⟩ := h3.elem m HM.out; have c0 := h3.c0; have x10 := hN.c10; obtain ⟨u2, hu2⟩ : ∃ u, (nd l m).f5 = u := ⟨_, rfl⟩; rw [hu2] at x10; have HU2 := hide hu2; clear h3 hN hu2)
      go_roundw
      case rel =>
        refine ⟨u2, done ++ [m], rest, rfl, ⟨by rw [HD.out]; simp⟩, ⟨by rw [← HU2.out]; exact HT.out⟩, ⟨by rw [List.map_append]; exact HO1.out⟩, ⟨HB1.out⟩⟩
      case measure =>
        obtain ⟨A1, c1, rfl⟩ := Kd.R_slice HO1.out
        have := HL.out
        simp
        omega
end Go.Proofs.Ytjebpaapkmbahaa.Ar
