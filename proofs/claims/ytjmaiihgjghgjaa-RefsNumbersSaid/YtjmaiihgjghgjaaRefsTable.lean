import Derived.Test.YtjmaiihgjghgjaaRefsNumber
namespace Go.Proofs.Ytjmaiihgjghgjaa.RefsRef
open Go.RowKit Go.Proofs.Ytjmaiihgjghgjaa.PRefsLongest Go.Proofs.Ytjmaiihgjghgjaa.Pure Go.Proofs.Ytjmaiihgjghgjaa.RefsNumber Go.Proofs.YtjmaiihgjghgjaaW.PrintWords Go.Proofs.YtjmaiihgjghgjaaW.PrintLast

def two (p : S40) : List ByteArray := [p.f0, p.f1]
def T2 : List ByteArray := T.flatMap two
def C2 : Array Value := (T2.map Value.string).toArray
theorem info9s : (Try.prog.info? 9).map (fun i => (i.zero, i.size, i.bytes)) = some (some (.string ⟨#[]⟩), 1, 16) := by kernel_rfl

set_option maxHeartbeats 1000000 in
set_option maxRecDepth 100000 in
theorem table (w : World) : Calls Try.prog 19 #[] w fun e w' => e = .returned (.slice (some ⟨w.heap.size, 0, none⟩) 102 102) ∧ w' = w.alloc (.cells C2 9) := by
  obtain ⟨ie, hi, hzz⟩ := Option.map_eq_some_iff.1 info9s
  simp only [Prod.mk.injEq] at hzz
  obtain ⟨hz0, hz1, hz2⟩ := hzz
  go_enter Try.func19, Try.ntmps19
  go_wp2_with (refine wpList_buildSlice rfl 22 9 102 _ rfl C2 ie (.string ⟨#[]⟩) Try.underlying22 hi hz0 (by rw [hz1]; decide) (by rw [hz1]; decide) ?hf ?_; (case hf => rw [hz1]; kernel_rfl))
  go_ret
  exact ⟨rfl, rfl⟩
end Go.Proofs.Ytjmaiihgjghgjaa.RefsRef
