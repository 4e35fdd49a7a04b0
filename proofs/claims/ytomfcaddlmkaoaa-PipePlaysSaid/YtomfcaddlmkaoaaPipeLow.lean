/- The walks of New, Put, Take, Len, Room of a pipe, of whole numbers and of texts: what each returns and how the channel's block turns. -/
import Derived.Test.YtomfcaddlmkaoaaChecked
import Derived.Conc.LoneSelect
import Derived.Conc.LoneSelectN
import Derived.KernelRfl
import Derived.Laws.Rows
import Derived.WalkKit
namespace Go.Proofs.Ytomfcaddlmkaoaa.Pipe
open Go.Conc Go.RowKit

set_option maxRecDepth 100000 in
theorem putRoomI (P C n s r : Nat) (buf : Array Value) (x : Int) (w : World) (hP : w.cell? ⟨P, 0, none⟩ = some (.chan (some C))) (hC : w.heap[C]? = some (.chan n buf false s r false)) (hr : buf.size < n) :
    Calls Try.prog 12 #[.pointer (some ⟨P, 0, none⟩), .int .i64 x] w fun e w' => e = .returned (.bool true) ∧ w' = w.setChan C n (buf.push (.int .i64 x)) false (s + 1) r false := by
  refine calls_of_loneTo fun cs => ?_
  have e : Frame.enter Try.prog 12 #[.pointer (some ⟨P, 0, none⟩), .int .i64 x] .normal = (base 12).at ⟨#[.pointer (some ⟨P, 0, none⟩), .int .i64 x, undef, undef, undef, undef, undef, undef, undef, undef, undef, undef, undef], []⟩ [.code (Try.f12.body.getD .skip)] := by
    simp [Frame.enter, Frame.at, Try.func12, base, Try.f12]
  rw [e]
  refine LoneTo.goes (n := 18) ?_
  simp only [Try.f12, Option.getD_some]
  s_c stepG_seq
  s_reg
  s_op
  s_c stepG_region_end
  s_c stepG_seq
  s_c stepG_seq
  s_reg
  s_op
  s_op
  s_op
  s_op
  s_c stepG_region_end
  s_reg
  s_op
  s_c stepG_region_end
  s_c stepG_seq
  s_reg
  s_stop
  refine LoneTo.step (step_lone_select_send_room (c := C) (v := .int .i64 x) (z' := .int .i64 0) (cap := n) (buf := buf) (s := s) (r := r) (tm := false) (stepG_comm (cases := #[scase C (.int .i64 x) (.int .i64 0)]) (blocking := false) (shape := .select) (w' := w) rfl rfl (by decide) (by simp [go_sem, execOp, scase, Act.eval])) hC hr) ?_
  rw [Frame.finish_at]
  walk_nrm
  refine LoneTo.goes (n := 9) ?_
  s_op
  s_op
  s_c stepG_region_end
  s_c stepG_block
  s_cond true
  s_c stepG_seq
  s_reg
  s_op
  s_c stepG_region_end
  s_stop
  refine LoneTo.goes (n := 1) ?_
  s_c stepG_ret'
  s_stop
  refine LoneTo.done ⟨.returned (.bool true), _, rfl, ⟨rfl, rfl⟩, rfl, rfl, rfl, rfl, _, Try.func12, by simp [results, Try.f12, Frame.at]⟩

set_option maxRecDepth 100000 in
theorem putFullI (P C n s r : Nat) (buf : Array Value) (x : Int) (w : World) (hP : w.cell? ⟨P, 0, none⟩ = some (.chan (some C))) (hC : w.heap[C]? = some (.chan n buf false s r false)) (hr : n ≤ buf.size) :
    Calls Try.prog 12 #[.pointer (some ⟨P, 0, none⟩), .int .i64 x] w fun e w' => e = .returned (.bool false) ∧ w' = w := by
  refine calls_of_loneTo fun cs => ?_
  have e : Frame.enter Try.prog 12 #[.pointer (some ⟨P, 0, none⟩), .int .i64 x] .normal = (base 12).at ⟨#[.pointer (some ⟨P, 0, none⟩), .int .i64 x, undef, undef, undef, undef, undef, undef, undef, undef, undef, undef, undef], []⟩ [.code (Try.f12.body.getD .skip)] := by
    simp [Frame.enter, Frame.at, Try.func12, base, Try.f12]
  rw [e]
  refine LoneTo.goes (n := 18) ?_
  simp only [Try.f12, Option.getD_some]
  s_c stepG_seq
  s_reg
  s_op
  s_c stepG_region_end
  s_c stepG_seq
  s_c stepG_seq
  s_reg
  s_op
  s_op
  s_op
  s_op
  s_c stepG_region_end
  s_reg
  s_op
  s_c stepG_region_end
  s_c stepG_seq
  s_reg
  s_stop
  refine LoneTo.step (step_lone_select_send_full (c := C) (v := .int .i64 x) (z' := .int .i64 0) (cap := n) (buf := buf) (s := s) (r := r) (tm := false) (stepG_comm (cases := #[scase C (.int .i64 x) (.int .i64 0)]) (blocking := false) (shape := .select) (w' := w) rfl rfl (by decide) (by simp [go_sem, execOp, scase, Act.eval])) hC hr) ?_
  rw [Frame.finish_at]
  walk_nrm
  refine LoneTo.goes (n := 9) ?_
  s_op
  s_op
  s_c stepG_region_end
  s_c stepG_block
  s_cond false
  s_c stepG_seq
  s_reg
  s_op
  s_c stepG_region_end
  s_stop
  refine LoneTo.goes (n := 1) ?_
  s_c stepG_ret'
  s_stop
  refine LoneTo.done ⟨.returned (.bool false), _, rfl, ⟨rfl, rfl⟩, rfl, rfl, rfl, rfl, _, Try.func12, by simp [results, Try.f12, Frame.at]⟩

set_option maxRecDepth 100000 in
theorem putRoomS (P C n s r : Nat) (buf : Array Value) (x : ByteArray) (w : World) (hP : w.cell? ⟨P, 0, none⟩ = some (.chan (some C))) (hC : w.heap[C]? = some (.chan n buf false s r false)) (hr : buf.size < n) :
    Calls Try.prog 18 #[.pointer (some ⟨P, 0, none⟩), .string x] w fun e w' => e = .returned (.bool true) ∧ w' = w.setChan C n (buf.push (.string x)) false (s + 1) r false := by
  refine calls_of_loneTo fun cs => ?_
  have e : Frame.enter Try.prog 18 #[.pointer (some ⟨P, 0, none⟩), .string x] .normal = (base 18).at ⟨#[.pointer (some ⟨P, 0, none⟩), .string x, undef, undef, undef, undef, undef, undef, undef, undef, undef, undef, undef], []⟩ [.code (Try.f18.body.getD .skip)] := by
    simp [Frame.enter, Frame.at, Try.func18, base, Try.f18]
  rw [e]
  refine LoneTo.goes (n := 18) ?_
  simp only [Try.f18, Option.getD_some]
  s_c stepG_seq
  s_reg
  s_op
  s_c stepG_region_end
  s_c stepG_seq
  s_c stepG_seq
  s_reg
  s_op
  s_op
  s_op
  s_op
  s_c stepG_region_end
  s_reg
  s_op
  s_c stepG_region_end
  s_c stepG_seq
  s_reg
  s_stop
  refine LoneTo.step (step_lone_select_send_room (c := C) (v := .string x) (z' := .string ⟨#[]⟩) (cap := n) (buf := buf) (s := s) (r := r) (tm := false) (stepG_comm (cases := #[scase C (.string x) (.string ⟨#[]⟩)]) (blocking := false) (shape := .select) (w' := w) rfl rfl (by decide) (by simp [go_sem, execOp, scase, Act.eval])) hC hr) ?_
  rw [Frame.finish_at]
  walk_nrm
  refine LoneTo.goes (n := 9) ?_
  s_op
  s_op
  s_c stepG_region_end
  s_c stepG_block
  s_cond true
  s_c stepG_seq
  s_reg
  s_op
  s_c stepG_region_end
  s_stop
  refine LoneTo.goes (n := 1) ?_
  s_c stepG_ret'
  s_stop
  refine LoneTo.done ⟨.returned (.bool true), _, rfl, ⟨rfl, rfl⟩, rfl, rfl, rfl, rfl, _, Try.func18, by simp [results, Try.f18, Frame.at]⟩

set_option maxRecDepth 100000 in
theorem putFullS (P C n s r : Nat) (buf : Array Value) (x : ByteArray) (w : World) (hP : w.cell? ⟨P, 0, none⟩ = some (.chan (some C))) (hC : w.heap[C]? = some (.chan n buf false s r false)) (hr : n ≤ buf.size) :
    Calls Try.prog 18 #[.pointer (some ⟨P, 0, none⟩), .string x] w fun e w' => e = .returned (.bool false) ∧ w' = w := by
  refine calls_of_loneTo fun cs => ?_
  have e : Frame.enter Try.prog 18 #[.pointer (some ⟨P, 0, none⟩), .string x] .normal = (base 18).at ⟨#[.pointer (some ⟨P, 0, none⟩), .string x, undef, undef, undef, undef, undef, undef, undef, undef, undef, undef, undef], []⟩ [.code (Try.f18.body.getD .skip)] := by
    simp [Frame.enter, Frame.at, Try.func18, base, Try.f18]
  rw [e]
  refine LoneTo.goes (n := 18) ?_
  simp only [Try.f18, Option.getD_some]
  s_c stepG_seq
  s_reg
  s_op
  s_c stepG_region_end
  s_c stepG_seq
  s_c stepG_seq
  s_reg
  s_op
  s_op
  s_op
  s_op
  s_c stepG_region_end
  s_reg
  s_op
  s_c stepG_region_end
  s_c stepG_seq
  s_reg
  s_stop
  refine LoneTo.step (step_lone_select_send_full (c := C) (v := .string x) (z' := .string ⟨#[]⟩) (cap := n) (buf := buf) (s := s) (r := r) (tm := false) (stepG_comm (cases := #[scase C (.string x) (.string ⟨#[]⟩)]) (blocking := false) (shape := .select) (w' := w) rfl rfl (by decide) (by simp [go_sem, execOp, scase, Act.eval])) hC hr) ?_
  rw [Frame.finish_at]
  walk_nrm
  refine LoneTo.goes (n := 9) ?_
  s_op
  s_op
  s_c stepG_region_end
  s_c stepG_block
  s_cond false
  s_c stepG_seq
  s_reg
  s_op
  s_c stepG_region_end
  s_stop
  refine LoneTo.goes (n := 1) ?_
  s_c stepG_ret'
  s_stop
  refine LoneTo.done ⟨.returned (.bool false), _, rfl, ⟨rfl, rfl⟩, rfl, rfl, rfl, rfl, _, Try.func18, by simp [results, Try.f18, Frame.at]⟩

set_option maxRecDepth 100000 in
theorem takeSomeI (P C n s r : Nat) (buf : Array Value) (w : World) (hP : w.cell? ⟨P, 0, none⟩ = some (.chan (some C))) (hC : w.heap[C]? = some (.chan n buf false s r false)) (v : Value) (hs : 0 < buf.size) (hv : buf.getD 0 undef = v) :
    Calls Try.prog 8 #[.pointer (some ⟨P, 0, none⟩)] w fun e w' => e = .returned (.tuple #[v, .bool true]) ∧ w' = w.setChan C n (buf.extract 1 buf.size) false s (r + 1) false := by
  refine calls_of_loneTo fun cs => ?_
  have e : Frame.enter Try.prog 8 #[.pointer (some ⟨P, 0, none⟩)] .normal = (base 8).at ⟨#[.pointer (some ⟨P, 0, none⟩), undef, undef, undef, undef, undef, undef, undef, undef, undef, undef, undef, undef, undef, undef, undef], []⟩ [.code (Try.f8.body.getD .skip)] := by
    simp [Frame.enter, Frame.at, Try.func8, base, Try.f8]
    try rfl
  rw [e]
  refine LoneTo.goes (n := 14) ?_
  simp only [Try.f8, Option.getD_some]
  s_c stepG_seq
  s_reg
  s_op
  s_op
  s_c stepG_region_end
  s_c stepG_seq
  s_reg
  s_op
  s_op
  s_op
  s_op
  s_c stepG_region_end
  s_c stepG_seq
  s_reg
  s_stop
  refine LoneTo.step (step_lone_select_recv_buf (c := C) (z := .int .i64 0) (cap := n) (buf := buf) (s := s) (r := r) (tm := false) (stepG_comm (cases := #[rcase C (.int .i64 0)]) (blocking := false) (shape := .select) (w' := w) rfl rfl (by decide) (by simp [go_sem, execOp, rcase, Act.eval])) hC hs) ?_
  rw [Frame.finish_at]
  walk_nrm
  rw [← Array.getD_eq_getD_getElem?, hv]
  refine LoneTo.goes (n := 20) ?_
  s_op
  s_op
  s_c stepG_region_end
  s_c stepG_block
  s_cond true
  s_c stepG_seq
  s_reg
  s_op
  s_op
  s_c stepG_region_end
  s_c stepG_seq
  s_reg
  s_op
  s_op
  s_op
  s_c stepG_region_end
  s_stop
  refine LoneTo.goes (n := 1) ?_
  s_c stepG_ret'
  s_stop
  refine LoneTo.done ⟨.returned (.tuple #[v, .bool true]), _, rfl, ⟨rfl, rfl⟩, rfl, rfl, rfl, rfl, _, Try.func8, by simp [results, Try.f8, Frame.at]⟩

set_option maxRecDepth 100000 in
theorem takeNoneI (P C n s r : Nat) (w : World) (hP : w.cell? ⟨P, 0, none⟩ = some (.chan (some C))) (hC : w.heap[C]? = some (.chan n #[] false s r false))  :
    Calls Try.prog 8 #[.pointer (some ⟨P, 0, none⟩)] w fun e w' => e = .returned (.tuple #[.int .i64 0, .bool false]) ∧ w' = w := by
  refine calls_of_loneTo fun cs => ?_
  have e : Frame.enter Try.prog 8 #[.pointer (some ⟨P, 0, none⟩)] .normal = (base 8).at ⟨#[.pointer (some ⟨P, 0, none⟩), undef, undef, undef, undef, undef, undef, undef, undef, undef, undef, undef, undef, undef, undef, undef], []⟩ [.code (Try.f8.body.getD .skip)] := by
    simp [Frame.enter, Frame.at, Try.func8, base, Try.f8]
    try rfl
  rw [e]
  refine LoneTo.goes (n := 14) ?_
  simp only [Try.f8, Option.getD_some]
  s_c stepG_seq
  s_reg
  s_op
  s_op
  s_c stepG_region_end
  s_c stepG_seq
  s_reg
  s_op
  s_op
  s_op
  s_op
  s_c stepG_region_end
  s_c stepG_seq
  s_reg
  s_stop
  refine LoneTo.step (step_lone_select_default (c := C) (z := .int .i64 0) (cap := n)  (s := s) (r := r) (tm := false) (stepG_comm (cases := #[rcase C (.int .i64 0)]) (blocking := false) (shape := .select) (w' := w) rfl rfl (by decide) (by simp [go_sem, execOp, rcase, Act.eval])) hC ) ?_
  rw [Frame.finish_at]
  walk_nrm
  
  refine LoneTo.goes (n := 20) ?_
  s_op
  s_op
  s_c stepG_region_end
  s_c stepG_block
  s_cond false
  s_c stepG_seq
  s_reg
  s_op

  s_c stepG_region_end
  s_c stepG_seq
  s_reg
  s_op
  s_op
  s_op
  s_c stepG_region_end
  s_stop
  refine LoneTo.goes (n := 1) ?_
  s_c stepG_ret'
  s_stop
  refine LoneTo.done ⟨.returned (.tuple #[.int .i64 0, .bool false]), _, rfl, ⟨rfl, rfl⟩, rfl, rfl, rfl, rfl, _, Try.func8, by simp [results, Try.f8, Frame.at]⟩

set_option maxRecDepth 100000 in
theorem takeSomeS (P C n s r : Nat) (buf : Array Value) (w : World) (hP : w.cell? ⟨P, 0, none⟩ = some (.chan (some C))) (hC : w.heap[C]? = some (.chan n buf false s r false)) (v : Value) (hs : 0 < buf.size) (hv : buf.getD 0 undef = v) :
    Calls Try.prog 19 #[.pointer (some ⟨P, 0, none⟩)] w fun e w' => e = .returned (.tuple #[v, .bool true]) ∧ w' = w.setChan C n (buf.extract 1 buf.size) false s (r + 1) false := by
  refine calls_of_loneTo fun cs => ?_
  have e : Frame.enter Try.prog 19 #[.pointer (some ⟨P, 0, none⟩)] .normal = (base 19).at ⟨#[.pointer (some ⟨P, 0, none⟩), undef, undef, undef, undef, undef, undef, undef, undef, undef, undef, undef, undef, undef, undef, undef], []⟩ [.code (Try.f19.body.getD .skip)] := by
    simp [Frame.enter, Frame.at, Try.func19, base, Try.f19]
    try rfl
  rw [e]
  refine LoneTo.goes (n := 14) ?_
  simp only [Try.f19, Option.getD_some]
  s_c stepG_seq
  s_reg
  s_op
  s_op
  s_c stepG_region_end
  s_c stepG_seq
  s_reg
  s_op
  s_op
  s_op
  s_op
  s_c stepG_region_end
  s_c stepG_seq
  s_reg
  s_stop
  refine LoneTo.step (step_lone_select_recv_buf (c := C) (z := .string ⟨#[]⟩) (cap := n) (buf := buf) (s := s) (r := r) (tm := false) (stepG_comm (cases := #[rcase C (.string ⟨#[]⟩)]) (blocking := false) (shape := .select) (w' := w) rfl rfl (by decide) (by simp [go_sem, execOp, rcase, Act.eval])) hC hs) ?_
  rw [Frame.finish_at]
  walk_nrm
  rw [← Array.getD_eq_getD_getElem?, hv]
  refine LoneTo.goes (n := 20) ?_
  s_op
  s_op
  s_c stepG_region_end
  s_c stepG_block
  s_cond true
  s_c stepG_seq
  s_reg
  s_op
  s_op
  s_c stepG_region_end
  s_c stepG_seq
  s_reg
  s_op
  s_op
  s_op
  s_c stepG_region_end
  s_stop
  refine LoneTo.goes (n := 1) ?_
  s_c stepG_ret'
  s_stop
  refine LoneTo.done ⟨.returned (.tuple #[v, .bool true]), _, rfl, ⟨rfl, rfl⟩, rfl, rfl, rfl, rfl, _, Try.func19, by simp [results, Try.f19, Frame.at]⟩

set_option maxRecDepth 100000 in
theorem takeNoneS (P C n s r : Nat) (w : World) (hP : w.cell? ⟨P, 0, none⟩ = some (.chan (some C))) (hC : w.heap[C]? = some (.chan n #[] false s r false))  :
    Calls Try.prog 19 #[.pointer (some ⟨P, 0, none⟩)] w fun e w' => e = .returned (.tuple #[.string ⟨#[]⟩, .bool false]) ∧ w' = w := by
  refine calls_of_loneTo fun cs => ?_
  have e : Frame.enter Try.prog 19 #[.pointer (some ⟨P, 0, none⟩)] .normal = (base 19).at ⟨#[.pointer (some ⟨P, 0, none⟩), undef, undef, undef, undef, undef, undef, undef, undef, undef, undef, undef, undef, undef, undef, undef], []⟩ [.code (Try.f19.body.getD .skip)] := by
    simp [Frame.enter, Frame.at, Try.func19, base, Try.f19]
    try rfl
  rw [e]
  refine LoneTo.goes (n := 14) ?_
  simp only [Try.f19, Option.getD_some]
  s_c stepG_seq
  s_reg
  s_op
  s_op
  s_c stepG_region_end
  s_c stepG_seq
  s_reg
  s_op
  s_op
  s_op
  s_op
  s_c stepG_region_end
  s_c stepG_seq
  s_reg
  s_stop
  refine LoneTo.step (step_lone_select_default (c := C) (z := .string ⟨#[]⟩) (cap := n)  (s := s) (r := r) (tm := false) (stepG_comm (cases := #[rcase C (.string ⟨#[]⟩)]) (blocking := false) (shape := .select) (w' := w) rfl rfl (by decide) (by simp [go_sem, execOp, rcase, Act.eval])) hC ) ?_
  rw [Frame.finish_at]
  walk_nrm
  
  refine LoneTo.goes (n := 20) ?_
  s_op
  s_op
  s_c stepG_region_end
  s_c stepG_block
  s_cond false
  s_c stepG_seq
  s_reg
  s_op

  s_c stepG_region_end
  s_c stepG_seq
  s_reg
  s_op
  s_op
  s_op
  s_c stepG_region_end
  s_stop
  refine LoneTo.goes (n := 1) ?_
  s_c stepG_ret'
  s_stop
  refine LoneTo.done ⟨.returned (.tuple #[.string ⟨#[]⟩, .bool false]), _, rfl, ⟨rfl, rfl⟩, rfl, rfl, rfl, rfl, _, Try.func19, by simp [results, Try.f19, Frame.at]⟩
end Go.Proofs.Ytomfcaddlmkaoaa.Pipe
