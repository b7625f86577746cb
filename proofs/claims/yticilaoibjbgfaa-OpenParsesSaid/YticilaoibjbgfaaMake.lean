/- make([]byte, n). -/
import Derived.Test.YticilaoibjbgfaaLibB
import Derived.Deep.OwnRows
namespace Go.Proofs.Yticilaoibjbgfaa.Lib
open Go.RowKit Go.Proofs.YticilaoibjbgfaaW.PrintWords
def zs (n : Nat) : List Int := List.replicate n 0
def zc (n : Nat) : List Value := List.replicate n (Value.int .u8 0)
theorem zs_nums (n : Nat) : zc n = nums .u8 (zs n) := by simp [zc, zs, nums]
theorem zs_len (n : Nat) : (zs n).length = n := by simp [zs]
theorem make_bytes (n : Nat) (hn : n ≤ 1000000) (w : World) : (Instr.makeSlice 30 (.int .i64 (n : Int)) (.int .i64 (n : Int))).run Try.prog w = .ok (.slice (some ⟨w.heap.size, 0, none⟩) n n) (w.alloc (.cells (zc n).toArray 5)) := by
  have h := run_make_row' (P := Try.prog) 30 5 (.int .u8 0) 1 Try.underlying30 info5 rfl .i64 .i64 n (by omega) (by omega) w
  have e : madeCells #[Value.int .u8 0] n = (zc n).toArray := by
    apply Array.ext_getElem?
    intro i
    simp only [madeCells, zc, Array.getElem?_map, List.getElem?_toArray, List.getElem?_replicate, Array.getElem?_range]
    by_cases h : i < n
    · simp [h, Nat.mod_one]
    · simp [h]
  rw [h, e]
end Go.Proofs.Yticilaoibjbgfaa.Lib
