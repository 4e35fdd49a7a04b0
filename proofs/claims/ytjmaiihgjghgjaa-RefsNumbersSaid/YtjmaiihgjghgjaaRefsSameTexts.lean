/- The walk of arbourbook.Same at texts: lists that read the same are the same. -/
import Derived.Test.YtjmaiihgjghgjaaRefsNamed
namespace Go.Proofs.Ytjmaiihgjghgjaa.RefsRef
open Go.RowKit Go.Proofs.YtjmaiihgjghgjaaW.PrintWords Go.Proofs.YtjmaiihgjghgjaaW.PrintLast

set_option maxHeartbeats 1000000 in
set_option maxRecDepth 100000 in
theorem same_texts (A B : Option Addr) (n ca cb : Nat) (xs : List ByteArray) (w : World) (ha : ReadsOf Value.string ByteArray.empty w A n xs) (hb : ReadsOf Value.string ByteArray.empty w B n xs) :
    Calls Try.prog 16 #[.slice A n ca, .slice B n cb] w fun e w' => e = .returned (.bool true) ∧ Below w.heap.size w w' := by
  have hn := ha.2.1
  go_enter Try.func16, Try.ntmps16
  go_wp2
  go_loopw [5] (fun i wr => ∃ k : Nat, k ≤ n ∧ i = .int .i64 k ∧ Aside0 (∃ m, wr = w.drewN m)) (fun i _ => n - (intOf i).toNat)
  case atStart => exact ⟨0, by omega, rfl, ⟨0, rfl⟩⟩
  case round =>
    obtain ⟨k, hk, rfl, HM⟩ := hrel
    obtain ⟨m, rfl⟩ := HM.out
    by_cases hlt : k < n
    · obtain ⟨a, rfl, hca⟩ := ha.at_ (k : Int) (by omega) (by omega)
      obtain ⟨b, rfl, hcb⟩ := hb.at_ (k : Int) (by omega) (by omega)
      rw [Int.toNat_natCast] at hca hcb
      obtain ⟨x, hx⟩ : ∃ x, rdOf ByteArray.empty xs (k : Int) = x := ⟨_, rfl⟩
      rw [hx] at hca hcb
      clear hx
      have k1 : (k : Int) < n := by omega
      go_wp2_with (go_quiet (fail))
      go_roundw
      case rel => exact ⟨k + 1, by omega, by go_num, ⟨_, by first | rfl | exact World.drewN_drewN _ _ _⟩⟩
      case measure => simp only [intOf]; omega
    · go_wp2
      go_ret
      exact ⟨rfl, pw_below_drewN (Below.refl _ _) _⟩
end Go.Proofs.Ytjmaiihgjghgjaa.RefsRef
