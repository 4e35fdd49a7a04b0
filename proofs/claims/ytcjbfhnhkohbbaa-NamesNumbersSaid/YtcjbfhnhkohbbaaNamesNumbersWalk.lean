/- The walk of arbourlaw6.NamesNumbers: the closed sentence is true. -/
import Derived.Test.YtcjbfhnhkohbbaaNamesTellsWalk
import Derived.Test.YtcjbfhnhkohbbaaNamesSame
import Derived.Great.BuildSlice
namespace Go.Proofs.Ytcjbfhnhkohbbaa.Plain
open Go.RowKit Go.Proofs.Ytcjbfhnhkohbbaa.PNamesTells Go.Proofs.YtcjbfhnhkohbbaaW.PrintWords Go.Proofs.YtcjbfhnhkohbbaaW.PrintLast

def L38 : List ByteArray := [(⟨#[]⟩ : ByteArray), (⟨#[104, 48]⟩ : ByteArray), (⟨#[104, 55]⟩ : ByteArray), (⟨#[72, 49]⟩ : ByteArray), (⟨#[97, 114, 101, 97]⟩ : ByteArray), (⟨#[98, 97, 115, 101]⟩ : ByteArray), (⟨#[99, 111, 108]⟩ : ByteArray), (⟨#[101, 109, 98, 101, 100]⟩ : ByteArray), (⟨#[115, 111, 117, 114, 99, 101]⟩ : ByteArray), (⟨#[119, 98, 114]⟩ : ByteArray), (⟨#[109, 101, 116, 97]⟩ : ByteArray), (⟨#[97, 114, 116, 105, 99, 108, 101]⟩ : ByteArray), (⟨#[98, 108, 111, 99, 107, 113, 117, 111, 116, 101]⟩ : ByteArray), (⟨#[99, 101, 110, 116, 101, 114]⟩ : ByteArray), (⟨#[100, 108]⟩ : ByteArray), (⟨#[109, 97, 105, 110]⟩ : ByteArray), (⟨#[110, 97, 118]⟩ : ByteArray), (⟨#[111, 108]⟩ : ByteArray), (⟨#[115, 101, 99, 116, 105, 111, 110]⟩ : ByteArray), (⟨#[99, 111, 100, 101]⟩ : ByteArray), (⟨#[115, 109, 97, 108, 108]⟩ : ByteArray), (⟨#[115, 116, 114, 111, 110, 103]⟩ : ByteArray), (⟨#[117]⟩ : ByteArray), (⟨#[109, 97, 114, 113, 117, 101, 101]⟩ : ByteArray), (⟨#[116, 102, 111, 111, 116]⟩ : ByteArray), (⟨#[102, 111, 114, 101, 105, 103, 110, 79, 98, 106, 101, 99, 116]⟩ : ByteArray), (⟨#[118, 105, 101, 119, 98, 111, 120]⟩ : ByteArray), (⟨#[99, 108, 105, 112, 112, 97, 116, 104]⟩ : ByteArray), (⟨#[108, 105, 110, 101, 97, 114, 103, 114, 97, 100, 105, 101, 110, 116]⟩ : ByteArray), (⟨#[116, 101, 120, 116, 112, 97, 116, 104]⟩ : ByteArray), (⟨#[112, 114, 101, 115, 101, 114, 118, 101, 97, 115, 112, 101, 99, 116, 114, 97, 116, 105, 111]⟩ : ByteArray), (⟨#[107, 101, 121, 103, 101, 110]⟩ : ByteArray), (⟨#[109, 97, 116, 104]⟩ : ByteArray), (⟨#[99, 97, 112, 116, 105, 111, 110]⟩ : ByteArray), (⟨#[99, 111, 108, 103, 114, 111, 117, 112]⟩ : ByteArray), (⟨#[102, 114, 97, 109, 101]⟩ : ByteArray), (⟨#[102, 105, 103, 117, 114, 101]⟩ : ByteArray), (⟨#[80]⟩ : ByteArray)]
def C38 : Array Value := (L38.map Value.string).toArray
theorem c38_get (k : Nat) (h : k < 38) : ∃ y, C38[k]? = some (.string y) := by
  have hl : k < L38.length := h
  refine ⟨L38[k], ?_⟩
  unfold C38
  rw [List.getElem?_toArray, List.getElem?_map, List.getElem?_eq_getElem hl]
  rfl
theorem info9s : (Try.prog.info? 9).map (fun i => (i.zero, i.size, i.bytes)) = some (some (.string ⟨#[]⟩), 1, 16) := by kernel_rfl

set_option maxHeartbeats 1000000 in
set_option maxRecDepth 100000 in
theorem lawNumbers (w : World) : Calls Try.prog 5 #[] w fun e w' => e = .returned (.bool true) ∧ Below w.heap.size w w' := by
  obtain ⟨ie, hi, hzz⟩ := Option.map_eq_some_iff.1 info9s
  simp only [Prod.mk.injEq] at hzz
  obtain ⟨hz0, hz1, hz2⟩ := hzz
  have HI := hide hi
  have HZ0 := hide hz0
  have HZ1 := hide hz1
  clear hi hz0 hz1 hz2
  have HB0 := hide (Below.refl w.heap.size w)
  go_enter Try.func5, Try.ntmps5
  go_wp2_with fail
  go_loopw [1] (fun i wr => ∃ k : Nat, k ≤ 60 ∧ i = .int .i64 k ∧ Aside0 (Below w.heap.size w wr)) (fun i _ => 60 - (intOf i).toNat)
  case atStart => exact ⟨0, by omega, rfl, ⟨HB0.out⟩⟩
  case round =>
    clear HB0
    obtain ⟨k, hk, rfl, HB⟩ := hrel
    by_cases hlt : k < 60
    · obtain ⟨x, hx, hn⟩ := names_gen (k : Int)
      have HN := hide hn
      clear hn hx
      have g1 : (k : Int) < 60 := by omega
      go_wp2_with fail
      go_loopw [2] (fun i wr => ∃ j : Nat, j ≤ 4 ∧ i = .int .i64 j ∧ Aside0 (Below w.heap.size w wr)) (fun i _ => 4 - (intOf i).toNat)
      case atStart => exact ⟨0, by omega, rfl, ⟨HB.out⟩⟩
      case round =>
        clear HB
        obtain ⟨j, hj, rfl, HB⟩ := hrel
        by_cases hlt2 : j < 4
        · have g2 : (j : Int) < 4 := by omega
          go_wp2_with (first
            | (go_at_call 7; (with_reducible refine (arbourkeep_Names.calls _ x _ HN.out).mono ?_); rintro e w3 ⟨rfl, hb3⟩; have HB3 := hide (below_step HB.out hb3); clear HB hb3; have HB := HB3; clear HB3; dsimp only)
            | (go_at_call 21; (refine (same _ _ _).mono ?_); rintro e w3 ⟨rfl, hb3⟩; have HB3 := hide (below_step HB.out hb3); clear HB hb3; have HB := HB3; clear HB3; dsimp only))
          go_roundw
          case rel => exact ⟨j + 1, by omega, by go_num, ⟨HB.out⟩⟩
          case measure => simp only [intOf]; omega
        · go_wp2_with fail
          go_roundw
          case rel => exact ⟨k + 1, by omega, by go_num, ⟨HB.out⟩⟩
          case measure => simp only [intOf]; omega
    · obtain ⟨wo, rfl⟩ : ∃ wo : World, wo = wr := ⟨_, rfl⟩
      go_wp2_with (refine wpList_buildSlice rfl 24 9 38 _ rfl C38 ie (.string ⟨#[]⟩) Try.underlying24 HI.out HZ0.out (by rw [HZ1.out]; decide) (by rw [HZ1.out]; decide) ?hf ?_; (case hf => rw [HZ1.out]; kernel_rfl))
      go_loopw [21] (fun i wr => ∃ k : Nat, k ≤ 38 ∧ i = .int .i64 k ∧ Aside0 (Below (wo.heap.size + 1) (wo.alloc (.cells C38 9)) wr)) (fun i _ => 38 - (intOf i).toNat)
      case atStart => exact ⟨0, by omega, rfl, ⟨Below.refl _ _⟩⟩
      case round =>
        obtain ⟨m, hm, rfl, HT⟩ := hrel
        by_cases hlt3 : m < 38
        · obtain ⟨y, hy⟩ := c38_get m hlt3
          have hc : wr.cell? ⟨wo.heap.size, m, none⟩ = some (.string y) := by
            rw [HT.out.cell (p := ⟨wo.heap.size, m, none⟩) (Nat.lt_succ_self _), cell_of_row _ _ m _ 9 (0, 0) (heap_alloc_new _ _)]
            exact hy
          clear hy
          have g3 : (m : Int) < 38 := by omega
          have hle : wo.heap.size + 1 ≤ wr.heap.size := by have := HT.out.size; simpa using this
          have HLE := hide hle
          clear hle
          go_wp2_with fail
          obtain ⟨wi, rfl⟩ : ∃ wi : World, wi = wr := ⟨_, rfl⟩
          go_loopw [5] (fun i wr => ∃ j : Nat, j ≤ 4 ∧ i = .int .i64 j ∧ Aside0 (Below wi.heap.size wi wr)) (fun i _ => 4 - (intOf i).toNat)
          case atStart => exact ⟨0, by omega, rfl, ⟨Below.refl _ _⟩⟩
          case round =>
            obtain ⟨j, hj, rfl, HQ⟩ := hrel
            by_cases hlt2 : j < 4
            · have g2 : (j : Int) < 4 := by omega
              go_wp2_with (go_at_call 21; (refine (same _ _ _).mono ?_); rintro e w3 ⟨rfl, hb3⟩; have HB3 := hide (below_step HQ.out hb3); clear HQ hb3; have HQ := HB3; clear HB3; dsimp only)
              go_roundw
              case rel => exact ⟨j + 1, by omega, by go_num, ⟨HQ.out⟩⟩
              case measure => simp only [intOf]; omega
            · go_wp2_with fail
              go_roundw
              case rel => exact ⟨m + 1, by omega, by go_num, ⟨HT.out.trans (HQ.out.mono HLE.out)⟩⟩
              case measure => simp only [intOf]; omega
        · go_wp2_with (go_at_call 10; (refine (known _).mono ?_); rintro e w6 ⟨rfl, hb6⟩; have HB6 := hide hb6; clear hb6; dsimp only)
          go_ret
          exact ⟨rfl, below_step (below_step HB.out ((below_alloc (Below.refl _ _) _).trans (HT.out.mono (by omega)))) HB6.out⟩
end Go.Proofs.Ytcjbfhnhkohbbaa.Plain
