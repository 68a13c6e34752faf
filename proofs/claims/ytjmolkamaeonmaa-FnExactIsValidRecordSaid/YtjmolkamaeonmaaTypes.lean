/-
  Which types are one cell, which are rows of cells: closed facts of the loaded program.
-/
import Derived.Test.YtjmolkamaeonmaaSlice
namespace Go.Proofs.Ytjmolkamaeonmaa
instance : IsCell Try.prog 1 := ⟨⟨_, Try.underlying1, rfl⟩⟩
instance : CellSize Try.prog 1 := ⟨by kernel_rfl⟩
instance : Zero Try.prog 2 [.int .i64 0] := ⟨.int .i64 0, by kernel_rfl, rfl⟩
instance : IsCell Try.prog 2 := ⟨⟨_, Try.underlying2, rfl⟩⟩
instance : CellSize Try.prog 2 := ⟨by kernel_rfl⟩
instance : Zero Try.prog 3 [.int .i64 0] := ⟨.int .i64 0, by kernel_rfl, rfl⟩
instance : IsCell Try.prog 3 := ⟨⟨_, Try.underlying3, rfl⟩⟩
instance : CellSize Try.prog 3 := ⟨by kernel_rfl⟩
instance : Zero Try.prog 4 [.bool false] := ⟨.bool false, by kernel_rfl, rfl⟩
instance : IsCell Try.prog 4 := ⟨⟨_, Try.underlying4, rfl⟩⟩
instance : CellSize Try.prog 4 := ⟨by kernel_rfl⟩
instance : Zero Try.prog 5 [.int .u8 0] := ⟨.int .u8 0, by kernel_rfl, rfl⟩
instance : IsCell Try.prog 5 := ⟨⟨_, Try.underlying5, rfl⟩⟩
instance : CellSize Try.prog 5 := ⟨by kernel_rfl⟩
instance : Zero Try.prog 9 [.string ⟨#[]⟩] := ⟨.string ⟨#[]⟩, by kernel_rfl, rfl⟩
instance : IsCell Try.prog 9 := ⟨⟨_, Try.underlying9, rfl⟩⟩
instance : CellSize Try.prog 9 := ⟨by kernel_rfl⟩
instance : Zero Try.prog 12 [.int .u64 0] := ⟨.int .u64 0, by kernel_rfl, rfl⟩
instance : IsCell Try.prog 12 := ⟨⟨_, Try.underlying12, rfl⟩⟩
instance : CellSize Try.prog 12 := ⟨by kernel_rfl⟩
instance : Zero Try.prog 21 [.int .i32 0] := ⟨.int .i32 0, by kernel_rfl, rfl⟩
instance : IsCell Try.prog 21 := ⟨⟨_, Try.underlying21, rfl⟩⟩
instance : CellSize Try.prog 21 := ⟨by kernel_rfl⟩
instance : Zero Try.prog 22 [.string ⟨#[]⟩, .string ⟨#[]⟩] := ⟨.agg #[.string ⟨#[]⟩, .string ⟨#[]⟩], by kernel_rfl, rfl⟩
instance : IsRow Try.prog 22 2 := ⟨⟨_, Try.underlying22, rfl⟩, by kernel_rfl⟩
instance : Zero Try.prog 23 [.string ⟨#[]⟩, .string ⟨#[]⟩] := ⟨.agg #[.string ⟨#[]⟩, .string ⟨#[]⟩], by kernel_rfl, rfl⟩
instance : IsRow Try.prog 23 2 := ⟨⟨_, Try.underlying23, rfl⟩, by kernel_rfl⟩
instance : IsCell Try.prog 24 := ⟨⟨_, Try.underlying24, rfl⟩⟩
instance : CellSize Try.prog 24 := ⟨by kernel_rfl⟩
instance : IsCell Try.prog 25 := ⟨⟨_, Try.underlying25, rfl⟩⟩
instance : CellSize Try.prog 25 := ⟨by kernel_rfl⟩
instance : Zero Try.prog 26 [.string ⟨#[]⟩, .string ⟨#[]⟩] := ⟨.agg #[.string ⟨#[]⟩, .string ⟨#[]⟩], by kernel_rfl, rfl⟩
instance : IsRow Try.prog 26 2 := ⟨⟨_, Try.underlying26, rfl⟩, by kernel_rfl⟩
instance : IsCell Try.prog 27 := ⟨⟨_, Try.underlying27, rfl⟩⟩
instance : CellSize Try.prog 27 := ⟨by kernel_rfl⟩
instance : IsCell Try.prog 28 := ⟨⟨_, Try.underlying28, rfl⟩⟩
instance : CellSize Try.prog 28 := ⟨by kernel_rfl⟩
instance : IsCell Try.prog 29 := ⟨⟨_, Try.underlying29, rfl⟩⟩
instance : CellSize Try.prog 29 := ⟨by kernel_rfl⟩
instance : IsCell Try.prog 30 := ⟨⟨_, Try.underlying30, rfl⟩⟩
instance : CellSize Try.prog 30 := ⟨by kernel_rfl⟩
instance : IsCell Try.prog 31 := ⟨⟨_, Try.underlying31, rfl⟩⟩
instance : CellSize Try.prog 31 := ⟨by kernel_rfl⟩
instance : IsCell Try.prog 32 := ⟨⟨_, Try.underlying32, rfl⟩⟩
instance : CellSize Try.prog 32 := ⟨by kernel_rfl⟩
instance : IsCell Try.prog 33 := ⟨⟨_, Try.underlying33, rfl⟩⟩
instance : CellSize Try.prog 33 := ⟨by kernel_rfl⟩
instance : IsCell Try.prog 34 := ⟨⟨_, Try.underlying34, rfl⟩⟩
instance : CellSize Try.prog 34 := ⟨by kernel_rfl⟩
instance : IsCell Try.prog 35 := ⟨⟨_, Try.underlying35, rfl⟩⟩
instance : CellSize Try.prog 35 := ⟨by kernel_rfl⟩
instance : IsCell Try.prog 36 := ⟨⟨_, Try.underlying36, rfl⟩⟩
instance : CellSize Try.prog 36 := ⟨by kernel_rfl⟩
instance : Zero Try.prog 37 [.int .u64 0] := ⟨.int .u64 0, by kernel_rfl, rfl⟩
instance : IsCell Try.prog 37 := ⟨⟨_, Try.underlying37, rfl⟩⟩
instance : CellSize Try.prog 37 := ⟨by kernel_rfl⟩
instance : Zero Try.prog 38 [.int .u32 0] := ⟨.int .u32 0, by kernel_rfl, rfl⟩
instance : IsCell Try.prog 38 := ⟨⟨_, Try.underlying38, rfl⟩⟩
instance : CellSize Try.prog 38 := ⟨by kernel_rfl⟩
instance : IsCell Try.prog 40 := ⟨⟨_, Try.underlying40, rfl⟩⟩
instance : CellSize Try.prog 40 := ⟨by kernel_rfl⟩
instance : IsCell Try.prog 41 := ⟨⟨_, Try.underlying41, rfl⟩⟩
instance : CellSize Try.prog 41 := ⟨by kernel_rfl⟩
instance : IsCell Try.prog 47 := ⟨⟨_, Try.underlying47, rfl⟩⟩
instance : CellSize Try.prog 47 := ⟨by kernel_rfl⟩
instance : IsCell Try.prog 50 := ⟨⟨_, Try.underlying50, rfl⟩⟩
instance : CellSize Try.prog 50 := ⟨by kernel_rfl⟩
instance : Zero Try.prog 51 [.pointer none] := ⟨.pointer none, by kernel_rfl, rfl⟩
instance : IsCell Try.prog 51 := ⟨⟨_, Try.underlying51, rfl⟩⟩
instance : CellSize Try.prog 51 := ⟨by kernel_rfl⟩

end Go.Proofs.Ytjmolkamaeonmaa
