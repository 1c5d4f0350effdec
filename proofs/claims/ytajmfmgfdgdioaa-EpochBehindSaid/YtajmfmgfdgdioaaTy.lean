/- Closed facts on the types of this translation. -/
import Derived.Test.YtajmfmgfdgdioaaEv
namespace Go.Proofs.Ytajmfmgfdgdioaa.Ty
open Go.Proofs.Ytajmfmgfdgdioaa.Ev
theorem z5 : (Try.prog.info? 5).map (·.zero) = some (some (.int .u8 0)) := by kernel_rfl
theorem s5 : (Try.prog.info? 5).map (·.size) = some 1 := by kernel_rfl
theorem o5 : One Try.prog 5 := ⟨_, Try.underlying5, rfl⟩
theorem z22 : (Try.prog.info? 22).map (·.zero) = some (some (.slice none 0 0)) := by kernel_rfl
theorem s22 : (Try.prog.info? 22).map (·.size) = some 1 := by kernel_rfl
theorem o22 : One Try.prog 22 := ⟨_, Try.underlying22, rfl⟩
theorem z23 : (Try.prog.info? 23).map (·.zero) = some (some (.int .u64 0)) := by kernel_rfl
theorem s23 : (Try.prog.info? 23).map (·.size) = some 1 := by kernel_rfl
theorem o23 : One Try.prog 23 := ⟨_, Try.underlying23, rfl⟩
theorem z28 : (Try.prog.info? 28).map (·.zero) = some (some (.slice none 0 0)) := by kernel_rfl
theorem s28 : (Try.prog.info? 28).map (·.size) = some 1 := by kernel_rfl
theorem o28 : One Try.prog 28 := ⟨_, Try.underlying28, rfl⟩
theorem z31 : (Try.prog.info? 31).map (·.zero) = some (some (.slice none 0 0)) := by kernel_rfl
theorem s31 : (Try.prog.info? 31).map (·.size) = some 1 := by kernel_rfl
theorem o31 : One Try.prog 31 := ⟨_, Try.underlying31, rfl⟩
theorem z33 : (Try.prog.info? 33).map (·.zero) = some (some (.agg #[.int .u64 0, .slice none 0 0])) := by kernel_rfl
theorem s33 : (Try.prog.info? 33).map (·.size) = some 2 := by kernel_rfl
theorem m33 : Many Try.prog 33 2 := ⟨⟨_, Try.underlying33, rfl⟩, s33⟩
theorem z36 : (Try.prog.info? 36).map (·.zero) = some (some (.int .u16 0)) := by kernel_rfl
theorem s36 : (Try.prog.info? 36).map (·.size) = some 1 := by kernel_rfl
theorem o36 : One Try.prog 36 := ⟨_, Try.underlying36, rfl⟩
theorem z38 : (Try.prog.info? 38).map (·.zero) = some (some (.agg #[.int .u8 0, .int .u16 0, .slice none 0 0])) := by kernel_rfl
theorem s38 : (Try.prog.info? 38).map (·.size) = some 3 := by kernel_rfl
theorem m38 : Many Try.prog 38 3 := ⟨⟨_, Try.underlying38, rfl⟩, s38⟩
theorem z41 : (Try.prog.info? 41).map (·.zero) = some (some (.slice none 0 0)) := by kernel_rfl
theorem s41 : (Try.prog.info? 41).map (·.size) = some 1 := by kernel_rfl
theorem o41 : One Try.prog 41 := ⟨_, Try.underlying41, rfl⟩
theorem z43 : (Try.prog.info? 43).map (·.zero) = some (some (.slice none 0 0)) := by kernel_rfl
theorem s43 : (Try.prog.info? 43).map (·.size) = some 1 := by kernel_rfl
theorem o43 : One Try.prog 43 := ⟨_, Try.underlying43, rfl⟩
theorem z46 : (Try.prog.info? 46).map (·.zero) = some (some (.agg #[.int .u16 0, .int .u64 0])) := by kernel_rfl
theorem s46 : (Try.prog.info? 46).map (·.size) = some 2 := by kernel_rfl
theorem m46 : Many Try.prog 46 2 := ⟨⟨_, Try.underlying46, rfl⟩, s46⟩
theorem z59 : (Try.prog.info? 59).map (·.zero) = some (some (.agg #[.int .u32 0, .int .u32 0, .int .u32 0, .int .u32 0, .int .u32 0, .int .u32 0, .int .u32 0, .int .u32 0, .int .u32 0, .slice none 0 0, .int .u8 0, .int .u64 0, .int .u32 0])) := by kernel_rfl
theorem s59 : (Try.prog.info? 59).map (·.size) = some 13 := by kernel_rfl
theorem m59 : Many Try.prog 59 13 := ⟨⟨_, Try.underlying59, rfl⟩, s59⟩
theorem z62 : (Try.prog.info? 62).map (·.zero) = some (some (.agg #[.int .u64 0, .slice none 0 0])) := by kernel_rfl
theorem s62 : (Try.prog.info? 62).map (·.size) = some 2 := by kernel_rfl
theorem m62 : Many Try.prog 62 2 := ⟨⟨_, Try.underlying62, rfl⟩, s62⟩
theorem z67 : (Try.prog.info? 67).map (·.zero) = some (some (.agg #[.int .u16 0, .int .u64 0])) := by kernel_rfl
theorem s67 : (Try.prog.info? 67).map (·.size) = some 2 := by kernel_rfl
theorem m67 : Many Try.prog 67 2 := ⟨⟨_, Try.underlying67, rfl⟩, s67⟩
end Go.Proofs.Ytajmfmgfdgdioaa.Ty
