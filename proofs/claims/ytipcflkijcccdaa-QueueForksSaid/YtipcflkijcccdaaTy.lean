/- Closed facts on the types of this translation. -/
import Derived.Test.YtipcflkijcccdaaEv
namespace Go.Proofs.Ytipcflkijcccdaa.Ty
open Go.Proofs.Ytipcflkijcccdaa.Ev
theorem z3 : (Try.prog.info? 3).map (·.zero) = some (some (.int .i64 0)) := by kernel_rfl
theorem s3 : (Try.prog.info? 3).map (·.size) = some 1 := by kernel_rfl
theorem o3 : One Try.prog 3 := ⟨_, Try.underlying3, rfl⟩
theorem z4 : (Try.prog.info? 4).map (·.zero) = some (some (.bool false)) := by kernel_rfl
theorem s4 : (Try.prog.info? 4).map (·.size) = some 1 := by kernel_rfl
theorem o4 : One Try.prog 4 := ⟨_, Try.underlying4, rfl⟩
theorem z5 : (Try.prog.info? 5).map (·.zero) = some (some (.int .u8 0)) := by kernel_rfl
theorem s5 : (Try.prog.info? 5).map (·.size) = some 1 := by kernel_rfl
theorem o5 : One Try.prog 5 := ⟨_, Try.underlying5, rfl⟩
theorem z9 : (Try.prog.info? 9).map (·.zero) = some (some (.string ⟨#[]⟩)) := by kernel_rfl
theorem s9 : (Try.prog.info? 9).map (·.size) = some 1 := by kernel_rfl
theorem o9 : One Try.prog 9 := ⟨_, Try.underlying9, rfl⟩
theorem z26 : (Try.prog.info? 26).map (·.zero) = some (some (.slice none 0 0)) := by kernel_rfl
theorem s26 : (Try.prog.info? 26).map (·.size) = some 1 := by kernel_rfl
theorem o26 : One Try.prog 26 := ⟨_, Try.underlying26, rfl⟩
theorem z28 : (Try.prog.info? 28).map (·.zero) = some (some (.agg #[.slice none 0 0, .int .i64 0])) := by kernel_rfl
theorem s28 : (Try.prog.info? 28).map (·.size) = some 2 := by kernel_rfl
theorem m28 : Many Try.prog 28 2 := ⟨⟨_, Try.underlying28, rfl⟩, s28⟩
theorem z31 : (Try.prog.info? 31).map (·.zero) = some (some (.slice none 0 0)) := by kernel_rfl
theorem s31 : (Try.prog.info? 31).map (·.size) = some 1 := by kernel_rfl
theorem o31 : One Try.prog 31 := ⟨_, Try.underlying31, rfl⟩
theorem z33 : (Try.prog.info? 33).map (·.zero) = some (some (.agg #[.int .u8 0, .string ⟨#[]⟩, .slice none 0 0])) := by kernel_rfl
theorem s33 : (Try.prog.info? 33).map (·.size) = some 3 := by kernel_rfl
theorem m33 : Many Try.prog 33 3 := ⟨⟨_, Try.underlying33, rfl⟩, s33⟩
theorem z35 : (Try.prog.info? 35).map (·.zero) = some (some (.agg #[.int .u8 0, .int .u8 0, .string ⟨#[]⟩, .slice none 0 0])) := by kernel_rfl
theorem s35 : (Try.prog.info? 35).map (·.size) = some 4 := by kernel_rfl
theorem m35 : Many Try.prog 35 4 := ⟨⟨_, Try.underlying35, rfl⟩, s35⟩
theorem z45 : (Try.prog.info? 45).map (·.zero) = some (some (.agg #[.int .i64 0, .int .u8 0, .string ⟨#[]⟩, .slice none 0 0])) := by kernel_rfl
theorem s45 : (Try.prog.info? 45).map (·.size) = some 4 := by kernel_rfl
theorem m45 : Many Try.prog 45 4 := ⟨⟨_, Try.underlying45, rfl⟩, s45⟩
theorem z51 : (Try.prog.info? 51).map (·.zero) = some (some (.agg #[.int .u8 0, .string ⟨#[]⟩, .slice none 0 0, .int .u8 0, .string ⟨#[]⟩, .slice none 0 0])) := by kernel_rfl
theorem s51 : (Try.prog.info? 51).map (·.size) = some 6 := by kernel_rfl
theorem m51 : Many Try.prog 51 6 := ⟨⟨_, Try.underlying51, rfl⟩, s51⟩
theorem z56 : (Try.prog.info? 56).map (·.zero) = some (some (.agg #[.int .i64 0, .int .u8 0, .string ⟨#[]⟩, .slice none 0 0, .int .i64 0, .int .u8 0, .string ⟨#[]⟩, .slice none 0 0, .int .i64 0, .int .u8 0, .string ⟨#[]⟩, .slice none 0 0, .int .i64 0, .int .u8 0, .string ⟨#[]⟩, .slice none 0 0, .int .i64 0, .int .u8 0, .string ⟨#[]⟩, .slice none 0 0, .int .i64 0, .int .u8 0, .string ⟨#[]⟩, .slice none 0 0, .int .i64 0, .int .u8 0, .string ⟨#[]⟩, .slice none 0 0, .int .i64 0, .int .u8 0, .string ⟨#[]⟩, .slice none 0 0, .int .i64 0, .int .i64 0, .int .i64 0])) := by kernel_rfl
theorem s56 : (Try.prog.info? 56).map (·.size) = some 35 := by kernel_rfl
theorem m56 : Many Try.prog 56 35 := ⟨⟨_, Try.underlying56, rfl⟩, s56⟩
theorem z57 : (Try.prog.info? 57).map (·.zero) = some (some (.agg #[.int .i64 0, .int .u8 0, .string ⟨#[]⟩, .slice none 0 0])) := by kernel_rfl
theorem s57 : (Try.prog.info? 57).map (·.size) = some 4 := by kernel_rfl
theorem m57 : Many Try.prog 57 4 := ⟨⟨_, Try.underlying57, rfl⟩, s57⟩
end Go.Proofs.Ytipcflkijcccdaa.Ty
