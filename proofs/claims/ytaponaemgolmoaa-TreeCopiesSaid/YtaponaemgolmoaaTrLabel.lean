/- The walk of tree.Label. -/
import Derived.Test.YtaponaemgolmoaaTrAt
import Derived.Test.YtaponaemgolmoaaTrEq
import Derived.Deep.QuietTactic
import Derived.BigQuiet
namespace Go.Proofs.Ytaponaemgolmoaa.Tr
open Go.RowKit Go.Proofs.Ytaponaemgolmoaa.PTreeTells Go.Proofs.YtaponaemgolmoaaW.PrintWords Go.Proofs.YtaponaemgolmoaaW.PrintLast
set_option maxHeartbeats 8000000 in
set_option maxRecDepth 100000 in
theorem label (p q : Addr) (a b : S26) (w : World) (ha : TAt w p a) (hb : TAt w q b) (hn : a.f3.length ≤ 1000000000) :
    Calls Try.prog 35 #[.pointer (some p), .pointer (some q)] w fun e w' => e = .returned (.bool (labL a b)) ∧ Drawn0 w w' := by
  obtain ⟨A3, c3, A5, c5, h0, h1, h2, h3, h4, h5, l3, g3, l5, g5⟩ := ha
  obtain ⟨B3, d3, B5, d5, i0, i1, i2, i3, i4, i5, m3, j3, m5, j5⟩ := hb
  have HS := hide (fun (n : Nat) => attrs_Same.calls (a.f3.length + 1) A3 c3 a.f3 B3 d3 b.f3 (sameA a.f3 b.f3) (w.drewN n) (Kd.C_drewN g3 n) l3 (Kd.C_drewN j3 n) m3 (attrSame _ _ hn _ (Nat.lt_succ_self _)))
  unfold labL
  obtain ⟨a0, a1, a2, a3, a4, a5⟩ := a
  obtain ⟨b0, b1, b2, b3, b4, b5⟩ := b
  dsimp only at *
  clear g3 j3 g5 j5 hn l3 m3 l5 m5 h5 i5
  obtain ⟨s, hs⟩ : ∃ s, sameA a3 b3 = s := ⟨_, rfl⟩
  rw [hs] at HS ⊢
  clear hs
  cases e0 : (a0 == b0) with
  | false =>
    go_enter Try.func35, Try.ntmps35
    go_wp2_with fail
    first | go_quiet (fail) | fail
    go_wp2_with fail
    go_ret
    exact ⟨rfl, by first | exact ⟨⟨_, rfl⟩⟩ | exact ⟨⟨0, rfl⟩⟩⟩
  | true =>
    cases e1 : (a1 == b1) with
    | false =>
      go_enter Try.func35, Try.ntmps35
      go_wp2_with fail
      first | go_quiet (fail) | fail
      go_wp2_with fail
      go_ret
      exact ⟨rfl, by first | exact ⟨⟨_, rfl⟩⟩ | exact ⟨⟨0, rfl⟩⟩⟩
    | true =>
      cases e2 : (a2.toList == b2.toList) with
      | false =>
        go_enter Try.func35, Try.ntmps35
        go_wp2_with fail
        first | go_quiet (fail) | fail
        go_wp2_with fail
        go_ret
        exact ⟨rfl, by first | exact ⟨⟨_, rfl⟩⟩ | exact ⟨⟨0, rfl⟩⟩⟩
      | true =>
        cases s with
        | false =>
          go_enter Try.func35, Try.ntmps35
          go_wp2_with fail
          first | go_quiet ((go_at_call 61; (with_reducible refine (HS.out _).mono ?_); rintro e w' ⟨rfl, ⟨⟨nd, rfl⟩⟩⟩; exact ⟨rfl, _, World.drewN_drewN _ _ _⟩)) | fail
          go_wp2_with fail
          go_ret
          exact ⟨rfl, by first | exact ⟨⟨_, rfl⟩⟩ | exact ⟨⟨0, rfl⟩⟩⟩
        | true =>
          cases e4 : (a4.toList == b4.toList) with
          | false =>
            go_enter Try.func35, Try.ntmps35
            go_wp2_with fail
            first | go_quiet ((go_at_call 61; (with_reducible refine (HS.out _).mono ?_); rintro e w' ⟨rfl, ⟨⟨nd, rfl⟩⟩⟩; exact ⟨rfl, _, World.drewN_drewN _ _ _⟩)) | fail
            go_wp2_with fail
            go_ret
            exact ⟨rfl, by first | exact ⟨⟨_, rfl⟩⟩ | exact ⟨⟨0, rfl⟩⟩⟩
          | true =>
            go_enter Try.func35, Try.ntmps35
            go_wp2_with fail
            first | go_quiet ((go_at_call 61; (with_reducible refine (HS.out _).mono ?_); rintro e w' ⟨rfl, ⟨⟨nd, rfl⟩⟩⟩; exact ⟨rfl, _, World.drewN_drewN _ _ _⟩)) | fail
            go_wp2_with fail
            go_ret
            exact ⟨rfl, by first | exact ⟨⟨_, rfl⟩⟩ | exact ⟨⟨0, rfl⟩⟩⟩
end Go.Proofs.Ytaponaemgolmoaa.Tr
