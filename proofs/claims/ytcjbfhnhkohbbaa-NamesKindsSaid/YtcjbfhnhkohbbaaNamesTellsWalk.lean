/- The walk of arbourlaw6.NamesTells: true for every number and text. No condition. -/
import Derived.Test.YtcjbfhnhkohbbaaNamesSame
import Derived.Great.BuildSlice
namespace Go.Proofs.Ytcjbfhnhkohbbaa.Plain
open Go.RowKit Go.Proofs.Ytcjbfhnhkohbbaa.PNamesTells Go.Proofs.YtcjbfhnhkohbbaaW.PrintWords Go.Proofs.YtcjbfhnhkohbbaaW.PrintLast

theorem known_some : arbourlaw6_known.f 10 = some true := by decide +kernel

theorem within_gen (a hi : Int) (h0 : 0 ≤ hi) (h1 : hi < 4611686018427387904) : ∃ t : Int, 0 ≤ t ∧ t ≤ hi ∧ arbourbook_Within.f a 0 hi = some t := by
  have e1 : wrap64 (wrap64 (hi - 0) + 1) = hi + 1 := by unfold wrap64; omega
  have h3 : (Int.tmod a (hi + 1)) < hi + 1 := Int.tmod_lt_of_pos a (by omega : (0 : Int) < hi + 1)
  have h2 : -(hi + 1) < Int.tmod a (hi + 1) := Int.lt_tmod_of_pos a (by omega : (0 : Int) < hi + 1)
  unfold arbourbook_Within.f
  rw [e1, if_neg (by omega)]
  generalize Int.tmod a (hi + 1) = r at *
  by_cases h : r < 0
  · rw [if_pos h]
    refine ⟨r + hi + 1, by omega, by omega, ?_⟩
    have : wrap64 (0 + wrap64 (wrap64 (wrap64 (r + hi) - 0) + 1)) = r + hi + 1 := by unfold wrap64; omega
    rw [this]
  · rw [if_neg h]
    refine ⟨r, by omega, by omega, ?_⟩
    have : wrap64 (0 + r) = r := by unfold wrap64; omega
    rw [this]

theorem head_gen (a : ByteArray) (m : Int) (hm : 0 ≤ m) : ∃ h : ByteArray, h.size ≤ m.toNat ∧ arbourkeep_Head.f a m = some h := by
  unfold arbourkeep_Head.f
  by_cases h : (a.size : Int) > m
  · rw [if_pos h, if_pos (by omega), if_pos (by omega)]
    refine ⟨_, ?_, rfl⟩
    simp
    omega
  · rw [if_neg h]
    exact ⟨a, by omega, rfl⟩

theorem rd_le (L : List ByteArray) (i : Int) (h : L.all (fun x => decide (x.size ≤ 20)) = true) : (rdOf ByteArray.empty L i).size ≤ 20 := by
  unfold rdOf
  rw [List.getD_eq_getElem?_getD]
  cases hx : L[i.toNat]? with
  | none => simp
  | some x => simpa using List.all_eq_true.1 h x (List.mem_of_getElem? hx)

theorem names_gen (n : Int) : ∃ t : ByteArray, t.size ≤ 20 ∧ arbourkeep_Names.f n = some t := by
  obtain ⟨t, h0, h1, hw⟩ := within_gen n 1048576 (by omega) (by omega)
  unfold arbourkeep_Names.f
  simp only [Option.bind_some, hw]
  rw [if_neg (by decide)]
  have h2 : 0 ≤ Int.tmod t 48 := Int.tmod_nonneg 48 h0
  have h3 : Int.tmod t 48 < 48 := Int.tmod_lt_of_pos t (by omega)
  split
  · split
    · exact ⟨_, rd_le _ _ (by decide +kernel), rfl⟩
    · rename_i h
      exact absurd h3 h
  · rename_i h
    exact absurd h2 h


theorem known (w : World) : Calls Try.prog 10 #[] w fun e w' => e = .returned (.bool true) ∧ Below w.heap.size w w' :=
  (arbourlaw6_known.calls 10 true w known_some).mono fun _ _ h => ⟨h.1, below_drawn h.2⟩

set_option maxHeartbeats 1000000 in
set_option maxRecDepth 100000 in
theorem lawTells (n : Int) (s : ByteArray) (m : Int) (w : World) : Calls Try.prog 6 #[.int .i64 n, .string s, .int .i64 m] w fun e w' => e = .returned (.bool true) ∧ Below w.heap.size w w' := by
  obtain ⟨hd, hh, hhead⟩ := head_gen s 60 (by omega)
  obtain ⟨x, hx, hn⟩ := names_gen m
  obtain ⟨u, hu0, hu, hwu⟩ := within_gen n 3 (by omega) (by omega)
  have HH := hide hhead
  have HN := hide hn
  have HU := hide hwu
  clear hhead hn hwu
  have p4 : x.size + hd.size ≤ 9223372036854775807 := by omega
  have p5 : (9223372036854775807 < x.size + hd.size) = False := eq_false (by omega)
  have HB := hide (Below.refl w.heap.size w)
  go_enter Try.func6, Try.ntmps6
  go_wp2_with (first
    | (go_at_call 8; (with_reducible refine (arbourkeep_Head.calls s 60 hd _ HH.out).mono ?_); rintro e w3 ⟨rfl, hb3⟩; have HB3 := hide (below_step HB.out (below_drawn hb3)); clear HB hb3; have HB := HB3; clear HB3; dsimp only)
    | (go_at_call 7; (with_reducible refine (arbourkeep_Names.calls m x _ HN.out).mono ?_); rintro e w3 ⟨rfl, hb3⟩; have HB3 := hide (below_step HB.out hb3); clear HB hb3; have HB := HB3; clear HB3; dsimp only)
    | (go_at_call 22; (with_reducible refine (arbourbook_Within.calls n 0 3 u _ HU.out).mono ?_); rintro e w3 ⟨rfl, hb3⟩; have HB3 := hide (below_step HB.out (below_drawn hb3)); clear HB hb3; have HB := HB3; clear HB3; dsimp only)
    | (go_at_call 21; (refine (same _ _ _).mono ?_); rintro e w3 ⟨rfl, hb3⟩; have HB3 := hide (below_step HB.out hb3); clear HB hb3; have HB := HB3; clear HB3; dsimp only)
    | (go_at_call 10; (refine (known _).mono ?_); rintro e w3 ⟨rfl, hb3⟩; have HB3 := hide (below_step HB.out hb3); clear HB hb3; have HB := HB3; clear HB3; dsimp only))
  go_ret
  exact ⟨rfl, HB.out⟩
end Go.Proofs.Ytcjbfhnhkohbbaa.Plain
