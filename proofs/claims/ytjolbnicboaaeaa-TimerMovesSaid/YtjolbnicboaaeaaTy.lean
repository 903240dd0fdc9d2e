/- Closed facts on the types of the translation, by a program of this session (genty.py). -/
import Derived.Test.YtjolbnicboaaeaaProg
import Derived.Test.YtjolbnicboaaeaaMap
import Derived.Laws.StructEq
import Derived.KernelRfl
namespace Go.Pse
open Go.RowKit
open Go.Proofs

theorem ty3 : Ty Try.prog 3 1 8 false [.int .i64 0] := ⟨by kernel_rfl, by rw [Try.underlying3]; rfl⟩
theorem ty4 : Ty Try.prog 4 1 1 false [.bool false] := ⟨by kernel_rfl, by rw [Try.underlying4]; rfl⟩
theorem ty22 : Ty Try.prog 22 1 24 false [.slice none 0 0] := ⟨by kernel_rfl, by rw [Try.underlying22]; rfl⟩
theorem ty23 : Ty Try.prog 23 1 24 false [.slice none 0 0] := ⟨by kernel_rfl, by rw [Try.underlying23]; rfl⟩
theorem ty26 : Ty Try.prog 26 1 8 false [.pointer none] := ⟨by kernel_rfl, by rw [Try.underlying26]; rfl⟩
theorem ty28 : Ty Try.prog 28 2 32 true [.slice none 0 0, .int .i64 0] := ⟨by kernel_rfl, by rw [Try.underlying28]; rfl⟩
theorem ty29 : Ty Try.prog 29 1 24 false [.slice none 0 0] := ⟨by kernel_rfl, by rw [Try.underlying29]; rfl⟩
theorem ty31 : Ty Try.prog 31 1 24 false [.slice none 0 0] := ⟨by kernel_rfl, by rw [Try.underlying31]; rfl⟩
theorem ty33 : Ty Try.prog 33 1 24 false [.slice none 0 0] := ⟨by kernel_rfl, by rw [Try.underlying33]; rfl⟩
theorem ty36 : Ty Try.prog 36 2 16 true [.int .i64 0, .int .i64 0] := ⟨by kernel_rfl, by rw [Try.underlying36]; rfl⟩
theorem ty37 : Ty Try.prog 37 1 4 false [.int .u32 0] := ⟨by kernel_rfl, by rw [Try.underlying37]; rfl⟩
theorem ty39 : Ty Try.prog 39 8 40 true [.int .i64 0, .int .i64 0, .int .u32 0, .int .u32 0, .int .u32 0, .int .u32 0, .int .u32 0, .int .u32 0] := ⟨by kernel_rfl, by rw [Try.underlying39]; rfl⟩
theorem ty41 : Ty Try.prog 41 13 72 true [.int .i64 0, .int .i64 0, .int .i64 0, .int .i64 0, .int .u32 0, .int .u32 0, .int .u32 0, .int .u32 0, .int .u32 0, .int .u32 0, .int .i64 0, .bool false, .bool false] := ⟨by kernel_rfl, by rw [Try.underlying41]; rfl⟩
theorem ty42 : Ty Try.prog 42 13 72 true [.int .i64 0, .int .i64 0, .int .i64 0, .int .i64 0, .int .u32 0, .int .u32 0, .int .u32 0, .int .u32 0, .int .u32 0, .int .u32 0, .int .i64 0, .bool false, .bool false] := ⟨by kernel_rfl, by rw [Try.underlying42]; rfl⟩
theorem ty47 : Ty Try.prog 47 1 24 false [.slice none 0 0] := ⟨by kernel_rfl, by rw [Try.underlying47]; rfl⟩
theorem ty48 : Ty Try.prog 48 1 24 false [.slice none 0 0] := ⟨by kernel_rfl, by rw [Try.underlying48]; rfl⟩
theorem ty50 : Ty Try.prog 50 2 48 true [.slice none 0 0, .slice none 0 0] := ⟨by kernel_rfl, by rw [Try.underlying50]; rfl⟩
theorem ty52 : Ty Try.prog 52 3 24 true [.int .i64 0, .int .i64 0, .int .i64 0] := ⟨by kernel_rfl, by rw [Try.underlying52]; rfl⟩
theorem ty56 : Ty Try.prog 56 5 40 true [.int .i64 0, .int .i64 0, .int .u32 0, .int .i64 0, .bool false] := ⟨by kernel_rfl, by rw [Try.underlying56]; rfl⟩
theorem ty62 : Ty Try.prog 62 1 24 false [.slice none 0 0] := ⟨by kernel_rfl, by rw [Try.underlying62]; rfl⟩
theorem ty64 : Ty Try.prog 64 1 24 true [.slice none 0 0] := ⟨by kernel_rfl, by rw [Try.underlying64]; rfl⟩
theorem ty66 : Ty Try.prog 66 1 24 true [.slice none 0 0] := ⟨by kernel_rfl, by rw [Try.underlying66]; rfl⟩
theorem ty68 : Ty Try.prog 68 7 48 true [.int .i64 0, .int .i64 0, .int .u32 0, .int .i64 0, .int .i64 0, .int .u32 0, .bool false] := ⟨by kernel_rfl, by rw [Try.underlying68]; rfl⟩
theorem ty80 : Ty Try.prog 80 1 24 false [.slice none 0 0] := ⟨by kernel_rfl, by rw [Try.underlying80]; rfl⟩
theorem ty81 : Ty Try.prog 81 1 8 false [.map none] := ⟨by kernel_rfl, by rw [Try.underlying81]; rfl⟩
theorem ty83 : Ty Try.prog 83 2 32 true [.slice none 0 0, .map none] := ⟨by kernel_rfl, by rw [Try.underlying83]; rfl⟩
theorem ty89 : Ty Try.prog 89 1 24 false [.slice none 0 0] := ⟨by kernel_rfl, by rw [Try.underlying89]; rfl⟩
theorem ty91 : Ty Try.prog 91 1 24 true [.slice none 0 0] := ⟨by kernel_rfl, by rw [Try.underlying91]; rfl⟩
theorem ty93 : Ty Try.prog 93 3 24 true [.int .i64 0, .int .i64 0, .int .i64 0] := ⟨by kernel_rfl, by rw [Try.underlying93]; rfl⟩
theorem ty97 : Ty Try.prog 97 1 24 false [.slice none 0 0] := ⟨by kernel_rfl, by rw [Try.underlying97]; rfl⟩
theorem ty98 : Ty Try.prog 98 1 24 false [.slice none 0 0] := ⟨by kernel_rfl, by rw [Try.underlying98]; rfl⟩
theorem ty99 : Ty Try.prog 99 1 24 false [.slice none 0 0] := ⟨by kernel_rfl, by rw [Try.underlying99]; rfl⟩
theorem ty101 : Ty Try.prog 101 2 48 true [.slice none 0 0, .slice none 0 0] := ⟨by kernel_rfl, by rw [Try.underlying101]; rfl⟩
theorem ty103 : Ty Try.prog 103 4 32 true [.int .i64 0, .int .i64 0, .int .i64 0, .bool false] := ⟨by kernel_rfl, by rw [Try.underlying103]; rfl⟩
theorem ty104 : Ty Try.prog 104 3 24 true [.int .i64 0, .int .i64 0, .int .i64 0] := ⟨by kernel_rfl, by rw [Try.underlying104]; rfl⟩
theorem ty107 : Ty Try.prog 107 5 40 true [.int .i64 0, .int .i64 0, .int .u32 0, .int .i64 0, .bool false] := ⟨by kernel_rfl, by rw [Try.underlying107]; rfl⟩
theorem ty111 : Ty Try.prog 111 1 8 false [.pointer none] := ⟨by kernel_rfl, by rw [Try.underlying111]; rfl⟩
theorem ty112 : Ty Try.prog 112 1 8 false [.pointer none] := ⟨by kernel_rfl, by rw [Try.underlying112]; rfl⟩
theorem ty116 : Ty Try.prog 116 3 40 true [.int .u32 0, .slice none 0 0, .map none] := ⟨by kernel_rfl, by rw [Try.underlying116]; rfl⟩
theorem ty123 : Ty Try.prog 123 1 24 false [.slice none 0 0] := ⟨by kernel_rfl, by rw [Try.underlying123]; rfl⟩
theorem ty125 : Ty Try.prog 125 1 24 false [.slice none 0 0] := ⟨by kernel_rfl, by rw [Try.underlying125]; rfl⟩
theorem ty127 : Ty Try.prog 127 2 32 true [.int .u32 0, .slice none 0 0] := ⟨by kernel_rfl, by rw [Try.underlying127]; rfl⟩
theorem ty129 : Ty Try.prog 129 3 24 true [.int .i64 0, .int .i64 0, .int .u32 0] := ⟨by kernel_rfl, by rw [Try.underlying129]; rfl⟩
theorem ty132 : Ty Try.prog 132 1 24 false [.slice none 0 0] := ⟨by kernel_rfl, by rw [Try.underlying132]; rfl⟩
theorem ty134 : Ty Try.prog 134 1 24 true [.slice none 0 0] := ⟨by kernel_rfl, by rw [Try.underlying134]; rfl⟩
theorem ty136 : Ty Try.prog 136 1 8 false [.int .u64 0] := ⟨by kernel_rfl, by rw [Try.underlying136]; rfl⟩
theorem ty141 : Ty Try.prog 141 1 24 false [.slice none 0 0] := ⟨by kernel_rfl, by rw [Try.underlying141]; rfl⟩
theorem ty142 : Ty Try.prog 142 1 24 false [.slice none 0 0] := ⟨by kernel_rfl, by rw [Try.underlying142]; rfl⟩
theorem ty144 : Ty Try.prog 144 1 24 true [.slice none 0 0] := ⟨by kernel_rfl, by rw [Try.underlying144]; rfl⟩
theorem ty146 : Ty Try.prog 146 4 32 true [.int .i64 0, .int .i64 0, .int .i64 0, .int .i64 0] := ⟨by kernel_rfl, by rw [Try.underlying146]; rfl⟩
theorem ty156 : Ty Try.prog 156 1 8 false [.pointer none] := ⟨by kernel_rfl, by rw [Try.underlying156]; rfl⟩
theorem ty157 : Ty Try.prog 157 1 8 false [.pointer none] := ⟨by kernel_rfl, by rw [Try.underlying157]; rfl⟩
theorem ty162 : Ty Try.prog 162 1 8 false [.pointer none] := ⟨by kernel_rfl, by rw [Try.underlying162]; rfl⟩
theorem ty164 : Ty Try.prog 164 1 8 false [.pointer none] := ⟨by kernel_rfl, by rw [Try.underlying164]; rfl⟩
theorem ty173 : Ty Try.prog 173 1 8 false [.pointer none] := ⟨by kernel_rfl, by rw [Try.underlying173]; rfl⟩
theorem ty175 : Ty Try.prog 175 3 24 true [.int .u64 0, .int .i64 0, .int .i64 0] := ⟨by kernel_rfl, by rw [Try.underlying175]; rfl⟩
theorem ty182 : Ty Try.prog 182 1 8 false [.pointer none] := ⟨by kernel_rfl, by rw [Try.underlying182]; rfl⟩
theorem ty184 : Ty Try.prog 184 3 24 true [.int .u64 0, .int .i64 0, .int .i64 0] := ⟨by kernel_rfl, by rw [Try.underlying184]; rfl⟩
theorem ty191 : Ty Try.prog 191 1 8 false [.int .u64 0] := ⟨by kernel_rfl, by rw [Try.underlying191]; rfl⟩
theorem fa28_0 (a : Addr) (w : World) : (Instr.fieldAt 28 (.pointer (some a)) 0).run Try.prog w = .ok (.pointer (some (a.add 0))) w := by
  simp [Instr.fieldAt, run_underlying Try.underlying28, Instr.sureAddr, fieldPlace, ty23.sizeOf]
theorem fa28_1 (a : Addr) (w : World) : (Instr.fieldAt 28 (.pointer (some a)) 1).run Try.prog w = .ok (.pointer (some (a.add 1))) w := by
  simp [Instr.fieldAt, run_underlying Try.underlying28, Instr.sureAddr, fieldPlace, ty3.sizeOf]
theorem fa36_0 (a : Addr) (w : World) : (Instr.fieldAt 36 (.pointer (some a)) 0).run Try.prog w = .ok (.pointer (some (a.add 0))) w := by
  simp [Instr.fieldAt, run_underlying Try.underlying36, Instr.sureAddr, fieldPlace, ty3.sizeOf]
theorem fa36_1 (a : Addr) (w : World) : (Instr.fieldAt 36 (.pointer (some a)) 1).run Try.prog w = .ok (.pointer (some (a.add 1))) w := by
  simp [Instr.fieldAt, run_underlying Try.underlying36, Instr.sureAddr, fieldPlace, ty3.sizeOf]
theorem fa39_0 (a : Addr) (w : World) : (Instr.fieldAt 39 (.pointer (some a)) 0).run Try.prog w = .ok (.pointer (some (a.add 0))) w := by
  simp [Instr.fieldAt, run_underlying Try.underlying39, Instr.sureAddr, fieldPlace, ty3.sizeOf]
theorem fa39_1 (a : Addr) (w : World) : (Instr.fieldAt 39 (.pointer (some a)) 1).run Try.prog w = .ok (.pointer (some (a.add 1))) w := by
  simp [Instr.fieldAt, run_underlying Try.underlying39, Instr.sureAddr, fieldPlace, ty3.sizeOf]
theorem fa39_3 (a : Addr) (w : World) : (Instr.fieldAt 39 (.pointer (some a)) 3).run Try.prog w = .ok (.pointer (some (a.add 3))) w := by
  simp [Instr.fieldAt, run_underlying Try.underlying39, Instr.sureAddr, fieldPlace, ty37.sizeOf]
theorem fa39_4 (a : Addr) (w : World) : (Instr.fieldAt 39 (.pointer (some a)) 4).run Try.prog w = .ok (.pointer (some (a.add 4))) w := by
  simp [Instr.fieldAt, run_underlying Try.underlying39, Instr.sureAddr, fieldPlace, ty37.sizeOf]
theorem fa39_5 (a : Addr) (w : World) : (Instr.fieldAt 39 (.pointer (some a)) 5).run Try.prog w = .ok (.pointer (some (a.add 5))) w := by
  simp [Instr.fieldAt, run_underlying Try.underlying39, Instr.sureAddr, fieldPlace, ty37.sizeOf]
theorem fa39_6 (a : Addr) (w : World) : (Instr.fieldAt 39 (.pointer (some a)) 6).run Try.prog w = .ok (.pointer (some (a.add 6))) w := by
  simp [Instr.fieldAt, run_underlying Try.underlying39, Instr.sureAddr, fieldPlace, ty37.sizeOf]
theorem fa39_7 (a : Addr) (w : World) : (Instr.fieldAt 39 (.pointer (some a)) 7).run Try.prog w = .ok (.pointer (some (a.add 7))) w := by
  simp [Instr.fieldAt, run_underlying Try.underlying39, Instr.sureAddr, fieldPlace, ty37.sizeOf]
theorem fa41_0 (a : Addr) (w : World) : (Instr.fieldAt 41 (.pointer (some a)) 0).run Try.prog w = .ok (.pointer (some (a.add 0))) w := by
  simp [Instr.fieldAt, run_underlying Try.underlying41, Instr.sureAddr, fieldPlace, ty36.sizeOf]
theorem fa41_1 (a : Addr) (w : World) : (Instr.fieldAt 41 (.pointer (some a)) 1).run Try.prog w = .ok (.pointer (some (a.add 2))) w := by
  simp [Instr.fieldAt, run_underlying Try.underlying41, Instr.sureAddr, fieldPlace, ty39.sizeOf]
theorem fa41_2 (a : Addr) (w : World) : (Instr.fieldAt 41 (.pointer (some a)) 2).run Try.prog w = .ok (.pointer (some (a.add 10))) w := by
  simp [Instr.fieldAt, run_underlying Try.underlying41, Instr.sureAddr, fieldPlace, ty3.sizeOf]
theorem fa41_3 (a : Addr) (w : World) : (Instr.fieldAt 41 (.pointer (some a)) 3).run Try.prog w = .ok (.pointer (some (a.add 11))) w := by
  simp [Instr.fieldAt, run_underlying Try.underlying41, Instr.sureAddr, fieldPlace, ty4.sizeOf]
theorem fa41_4 (a : Addr) (w : World) : (Instr.fieldAt 41 (.pointer (some a)) 4).run Try.prog w = .ok (.pointer (some (a.add 12))) w := by
  simp [Instr.fieldAt, run_underlying Try.underlying41, Instr.sureAddr, fieldPlace, ty4.sizeOf]
theorem fa42_0 (a : Addr) (w : World) : (Instr.fieldAt 42 (.pointer (some a)) 0).run Try.prog w = .ok (.pointer (some (a.add 0))) w := by
  simp [Instr.fieldAt, run_underlying Try.underlying42, Instr.sureAddr, fieldPlace, ty36.sizeOf]
theorem fa42_1 (a : Addr) (w : World) : (Instr.fieldAt 42 (.pointer (some a)) 1).run Try.prog w = .ok (.pointer (some (a.add 2))) w := by
  simp [Instr.fieldAt, run_underlying Try.underlying42, Instr.sureAddr, fieldPlace, ty39.sizeOf]
theorem fa42_2 (a : Addr) (w : World) : (Instr.fieldAt 42 (.pointer (some a)) 2).run Try.prog w = .ok (.pointer (some (a.add 10))) w := by
  simp [Instr.fieldAt, run_underlying Try.underlying42, Instr.sureAddr, fieldPlace, ty3.sizeOf]
theorem fa42_3 (a : Addr) (w : World) : (Instr.fieldAt 42 (.pointer (some a)) 3).run Try.prog w = .ok (.pointer (some (a.add 11))) w := by
  simp [Instr.fieldAt, run_underlying Try.underlying42, Instr.sureAddr, fieldPlace, ty4.sizeOf]
theorem fa50_0 (a : Addr) (w : World) : (Instr.fieldAt 50 (.pointer (some a)) 0).run Try.prog w = .ok (.pointer (some (a.add 0))) w := by
  simp [Instr.fieldAt, run_underlying Try.underlying50, Instr.sureAddr, fieldPlace, ty47.sizeOf]
theorem fa50_1 (a : Addr) (w : World) : (Instr.fieldAt 50 (.pointer (some a)) 1).run Try.prog w = .ok (.pointer (some (a.add 1))) w := by
  simp [Instr.fieldAt, run_underlying Try.underlying50, Instr.sureAddr, fieldPlace, ty48.sizeOf]
theorem fa52_0 (a : Addr) (w : World) : (Instr.fieldAt 52 (.pointer (some a)) 0).run Try.prog w = .ok (.pointer (some (a.add 0))) w := by
  simp [Instr.fieldAt, run_underlying Try.underlying52, Instr.sureAddr, fieldPlace, ty36.sizeOf]
theorem fa52_1 (a : Addr) (w : World) : (Instr.fieldAt 52 (.pointer (some a)) 1).run Try.prog w = .ok (.pointer (some (a.add 2))) w := by
  simp [Instr.fieldAt, run_underlying Try.underlying52, Instr.sureAddr, fieldPlace, ty3.sizeOf]
theorem fa56_0 (a : Addr) (w : World) : (Instr.fieldAt 56 (.pointer (some a)) 0).run Try.prog w = .ok (.pointer (some (a.add 0))) w := by
  simp [Instr.fieldAt, run_underlying Try.underlying56, Instr.sureAddr, fieldPlace, ty36.sizeOf]
theorem fa56_1 (a : Addr) (w : World) : (Instr.fieldAt 56 (.pointer (some a)) 1).run Try.prog w = .ok (.pointer (some (a.add 2))) w := by
  simp [Instr.fieldAt, run_underlying Try.underlying56, Instr.sureAddr, fieldPlace, ty37.sizeOf]
theorem fa56_2 (a : Addr) (w : World) : (Instr.fieldAt 56 (.pointer (some a)) 2).run Try.prog w = .ok (.pointer (some (a.add 3))) w := by
  simp [Instr.fieldAt, run_underlying Try.underlying56, Instr.sureAddr, fieldPlace, ty3.sizeOf]
theorem fa56_3 (a : Addr) (w : World) : (Instr.fieldAt 56 (.pointer (some a)) 3).run Try.prog w = .ok (.pointer (some (a.add 4))) w := by
  simp [Instr.fieldAt, run_underlying Try.underlying56, Instr.sureAddr, fieldPlace, ty4.sizeOf]
theorem fa64_0 (a : Addr) (w : World) : (Instr.fieldAt 64 (.pointer (some a)) 0).run Try.prog w = .ok (.pointer (some (a.add 0))) w := by
  simp [Instr.fieldAt, run_underlying Try.underlying64, Instr.sureAddr, fieldPlace, ty62.sizeOf]
theorem fa66_0 (a : Addr) (w : World) : (Instr.fieldAt 66 (.pointer (some a)) 0).run Try.prog w = .ok (.pointer (some (a.add 0))) w := by
  simp [Instr.fieldAt, run_underlying Try.underlying66, Instr.sureAddr, fieldPlace, ty62.sizeOf]
theorem fa68_0 (a : Addr) (w : World) : (Instr.fieldAt 68 (.pointer (some a)) 0).run Try.prog w = .ok (.pointer (some (a.add 0))) w := by
  simp [Instr.fieldAt, run_underlying Try.underlying68, Instr.sureAddr, fieldPlace, ty36.sizeOf]
theorem fa68_1 (a : Addr) (w : World) : (Instr.fieldAt 68 (.pointer (some a)) 1).run Try.prog w = .ok (.pointer (some (a.add 2))) w := by
  simp [Instr.fieldAt, run_underlying Try.underlying68, Instr.sureAddr, fieldPlace, ty37.sizeOf]
theorem fa68_2 (a : Addr) (w : World) : (Instr.fieldAt 68 (.pointer (some a)) 2).run Try.prog w = .ok (.pointer (some (a.add 3))) w := by
  simp [Instr.fieldAt, run_underlying Try.underlying68, Instr.sureAddr, fieldPlace, ty3.sizeOf]
theorem fa68_3 (a : Addr) (w : World) : (Instr.fieldAt 68 (.pointer (some a)) 3).run Try.prog w = .ok (.pointer (some (a.add 4))) w := by
  simp [Instr.fieldAt, run_underlying Try.underlying68, Instr.sureAddr, fieldPlace, ty3.sizeOf]
theorem fa68_4 (a : Addr) (w : World) : (Instr.fieldAt 68 (.pointer (some a)) 4).run Try.prog w = .ok (.pointer (some (a.add 5))) w := by
  simp [Instr.fieldAt, run_underlying Try.underlying68, Instr.sureAddr, fieldPlace, ty37.sizeOf]
theorem fa68_5 (a : Addr) (w : World) : (Instr.fieldAt 68 (.pointer (some a)) 5).run Try.prog w = .ok (.pointer (some (a.add 6))) w := by
  simp [Instr.fieldAt, run_underlying Try.underlying68, Instr.sureAddr, fieldPlace, ty4.sizeOf]
theorem fa83_0 (a : Addr) (w : World) : (Instr.fieldAt 83 (.pointer (some a)) 0).run Try.prog w = .ok (.pointer (some (a.add 0))) w := by
  simp [Instr.fieldAt, run_underlying Try.underlying83, Instr.sureAddr, fieldPlace, ty80.sizeOf]
theorem fa83_1 (a : Addr) (w : World) : (Instr.fieldAt 83 (.pointer (some a)) 1).run Try.prog w = .ok (.pointer (some (a.add 1))) w := by
  simp [Instr.fieldAt, run_underlying Try.underlying83, Instr.sureAddr, fieldPlace, ty81.sizeOf]
theorem fa91_0 (a : Addr) (w : World) : (Instr.fieldAt 91 (.pointer (some a)) 0).run Try.prog w = .ok (.pointer (some (a.add 0))) w := by
  simp [Instr.fieldAt, run_underlying Try.underlying91, Instr.sureAddr, fieldPlace, ty80.sizeOf]
theorem fa93_0 (a : Addr) (w : World) : (Instr.fieldAt 93 (.pointer (some a)) 0).run Try.prog w = .ok (.pointer (some (a.add 0))) w := by
  simp [Instr.fieldAt, run_underlying Try.underlying93, Instr.sureAddr, fieldPlace, ty3.sizeOf]
theorem fa93_1 (a : Addr) (w : World) : (Instr.fieldAt 93 (.pointer (some a)) 1).run Try.prog w = .ok (.pointer (some (a.add 1))) w := by
  simp [Instr.fieldAt, run_underlying Try.underlying93, Instr.sureAddr, fieldPlace, ty3.sizeOf]
theorem fa93_2 (a : Addr) (w : World) : (Instr.fieldAt 93 (.pointer (some a)) 2).run Try.prog w = .ok (.pointer (some (a.add 2))) w := by
  simp [Instr.fieldAt, run_underlying Try.underlying93, Instr.sureAddr, fieldPlace, ty3.sizeOf]
theorem fa101_0 (a : Addr) (w : World) : (Instr.fieldAt 101 (.pointer (some a)) 0).run Try.prog w = .ok (.pointer (some (a.add 0))) w := by
  simp [Instr.fieldAt, run_underlying Try.underlying101, Instr.sureAddr, fieldPlace, ty98.sizeOf]
theorem fa101_1 (a : Addr) (w : World) : (Instr.fieldAt 101 (.pointer (some a)) 1).run Try.prog w = .ok (.pointer (some (a.add 1))) w := by
  simp [Instr.fieldAt, run_underlying Try.underlying101, Instr.sureAddr, fieldPlace, ty99.sizeOf]
theorem fa103_0 (a : Addr) (w : World) : (Instr.fieldAt 103 (.pointer (some a)) 0).run Try.prog w = .ok (.pointer (some (a.add 0))) w := by
  simp [Instr.fieldAt, run_underlying Try.underlying103, Instr.sureAddr, fieldPlace, ty3.sizeOf]
theorem fa103_1 (a : Addr) (w : World) : (Instr.fieldAt 103 (.pointer (some a)) 1).run Try.prog w = .ok (.pointer (some (a.add 1))) w := by
  simp [Instr.fieldAt, run_underlying Try.underlying103, Instr.sureAddr, fieldPlace, ty3.sizeOf]
theorem fa103_2 (a : Addr) (w : World) : (Instr.fieldAt 103 (.pointer (some a)) 2).run Try.prog w = .ok (.pointer (some (a.add 2))) w := by
  simp [Instr.fieldAt, run_underlying Try.underlying103, Instr.sureAddr, fieldPlace, ty3.sizeOf]
theorem fa103_3 (a : Addr) (w : World) : (Instr.fieldAt 103 (.pointer (some a)) 3).run Try.prog w = .ok (.pointer (some (a.add 3))) w := by
  simp [Instr.fieldAt, run_underlying Try.underlying103, Instr.sureAddr, fieldPlace, ty4.sizeOf]
theorem fa104_0 (a : Addr) (w : World) : (Instr.fieldAt 104 (.pointer (some a)) 0).run Try.prog w = .ok (.pointer (some (a.add 0))) w := by
  simp [Instr.fieldAt, run_underlying Try.underlying104, Instr.sureAddr, fieldPlace, ty36.sizeOf]
theorem fa104_1 (a : Addr) (w : World) : (Instr.fieldAt 104 (.pointer (some a)) 1).run Try.prog w = .ok (.pointer (some (a.add 2))) w := by
  simp [Instr.fieldAt, run_underlying Try.underlying104, Instr.sureAddr, fieldPlace, ty3.sizeOf]
theorem fa107_0 (a : Addr) (w : World) : (Instr.fieldAt 107 (.pointer (some a)) 0).run Try.prog w = .ok (.pointer (some (a.add 0))) w := by
  simp [Instr.fieldAt, run_underlying Try.underlying107, Instr.sureAddr, fieldPlace, ty36.sizeOf]
theorem fa107_1 (a : Addr) (w : World) : (Instr.fieldAt 107 (.pointer (some a)) 1).run Try.prog w = .ok (.pointer (some (a.add 2))) w := by
  simp [Instr.fieldAt, run_underlying Try.underlying107, Instr.sureAddr, fieldPlace, ty37.sizeOf]
theorem fa107_2 (a : Addr) (w : World) : (Instr.fieldAt 107 (.pointer (some a)) 2).run Try.prog w = .ok (.pointer (some (a.add 3))) w := by
  simp [Instr.fieldAt, run_underlying Try.underlying107, Instr.sureAddr, fieldPlace, ty3.sizeOf]
theorem fa107_3 (a : Addr) (w : World) : (Instr.fieldAt 107 (.pointer (some a)) 3).run Try.prog w = .ok (.pointer (some (a.add 4))) w := by
  simp [Instr.fieldAt, run_underlying Try.underlying107, Instr.sureAddr, fieldPlace, ty4.sizeOf]
theorem fa116_0 (a : Addr) (w : World) : (Instr.fieldAt 116 (.pointer (some a)) 0).run Try.prog w = .ok (.pointer (some (a.add 0))) w := by
  simp [Instr.fieldAt, run_underlying Try.underlying116, Instr.sureAddr, fieldPlace, ty37.sizeOf]
theorem fa116_1 (a : Addr) (w : World) : (Instr.fieldAt 116 (.pointer (some a)) 1).run Try.prog w = .ok (.pointer (some (a.add 1))) w := by
  simp [Instr.fieldAt, run_underlying Try.underlying116, Instr.sureAddr, fieldPlace, ty83.sizeOf]
theorem fa127_0 (a : Addr) (w : World) : (Instr.fieldAt 127 (.pointer (some a)) 0).run Try.prog w = .ok (.pointer (some (a.add 0))) w := by
  simp [Instr.fieldAt, run_underlying Try.underlying127, Instr.sureAddr, fieldPlace, ty37.sizeOf]
theorem fa127_1 (a : Addr) (w : World) : (Instr.fieldAt 127 (.pointer (some a)) 1).run Try.prog w = .ok (.pointer (some (a.add 1))) w := by
  simp [Instr.fieldAt, run_underlying Try.underlying127, Instr.sureAddr, fieldPlace, ty91.sizeOf]
theorem fa129_0 (a : Addr) (w : World) : (Instr.fieldAt 129 (.pointer (some a)) 0).run Try.prog w = .ok (.pointer (some (a.add 0))) w := by
  simp [Instr.fieldAt, run_underlying Try.underlying129, Instr.sureAddr, fieldPlace, ty3.sizeOf]
theorem fa129_1 (a : Addr) (w : World) : (Instr.fieldAt 129 (.pointer (some a)) 1).run Try.prog w = .ok (.pointer (some (a.add 1))) w := by
  simp [Instr.fieldAt, run_underlying Try.underlying129, Instr.sureAddr, fieldPlace, ty3.sizeOf]
theorem fa129_2 (a : Addr) (w : World) : (Instr.fieldAt 129 (.pointer (some a)) 2).run Try.prog w = .ok (.pointer (some (a.add 2))) w := by
  simp [Instr.fieldAt, run_underlying Try.underlying129, Instr.sureAddr, fieldPlace, ty37.sizeOf]
theorem fa134_0 (a : Addr) (w : World) : (Instr.fieldAt 134 (.pointer (some a)) 0).run Try.prog w = .ok (.pointer (some (a.add 0))) w := by
  simp [Instr.fieldAt, run_underlying Try.underlying134, Instr.sureAddr, fieldPlace, ty132.sizeOf]
theorem fa144_0 (a : Addr) (w : World) : (Instr.fieldAt 144 (.pointer (some a)) 0).run Try.prog w = .ok (.pointer (some (a.add 0))) w := by
  simp [Instr.fieldAt, run_underlying Try.underlying144, Instr.sureAddr, fieldPlace, ty142.sizeOf]
theorem fa146_0 (a : Addr) (w : World) : (Instr.fieldAt 146 (.pointer (some a)) 0).run Try.prog w = .ok (.pointer (some (a.add 0))) w := by
  simp [Instr.fieldAt, run_underlying Try.underlying146, Instr.sureAddr, fieldPlace, ty3.sizeOf]
theorem fa146_1 (a : Addr) (w : World) : (Instr.fieldAt 146 (.pointer (some a)) 1).run Try.prog w = .ok (.pointer (some (a.add 1))) w := by
  simp [Instr.fieldAt, run_underlying Try.underlying146, Instr.sureAddr, fieldPlace, ty3.sizeOf]
theorem fa146_2 (a : Addr) (w : World) : (Instr.fieldAt 146 (.pointer (some a)) 2).run Try.prog w = .ok (.pointer (some (a.add 2))) w := by
  simp [Instr.fieldAt, run_underlying Try.underlying146, Instr.sureAddr, fieldPlace, ty3.sizeOf]
theorem fa146_3 (a : Addr) (w : World) : (Instr.fieldAt 146 (.pointer (some a)) 3).run Try.prog w = .ok (.pointer (some (a.add 3))) w := by
  simp [Instr.fieldAt, run_underlying Try.underlying146, Instr.sureAddr, fieldPlace, ty3.sizeOf]
theorem fa175_0 (a : Addr) (w : World) : (Instr.fieldAt 175 (.pointer (some a)) 0).run Try.prog w = .ok (.pointer (some (a.add 0))) w := by
  simp [Instr.fieldAt, run_underlying Try.underlying175, Instr.sureAddr, fieldPlace, ty136.sizeOf]
theorem fa175_1 (a : Addr) (w : World) : (Instr.fieldAt 175 (.pointer (some a)) 1).run Try.prog w = .ok (.pointer (some (a.add 1))) w := by
  simp [Instr.fieldAt, run_underlying Try.underlying175, Instr.sureAddr, fieldPlace, ty36.sizeOf]
theorem fa184_0 (a : Addr) (w : World) : (Instr.fieldAt 184 (.pointer (some a)) 0).run Try.prog w = .ok (.pointer (some (a.add 0))) w := by
  simp [Instr.fieldAt, run_underlying Try.underlying184, Instr.sureAddr, fieldPlace, ty136.sizeOf]
theorem fa184_1 (a : Addr) (w : World) : (Instr.fieldAt 184 (.pointer (some a)) 1).run Try.prog w = .ok (.pointer (some (a.add 1))) w := by
  simp [Instr.fieldAt, run_underlying Try.underlying184, Instr.sureAddr, fieldPlace, ty36.sizeOf]
theorem bld28 {F : Env} {n : Nat} {dst : Option Tmp} {T : TypeId} {p : String} {e : Array Edge} {g : Option (Nat × Bool)} {parts : Array (Nat × Operand)} {ps : List (Nat × Value)} {cs : List Value} (hps : Parts F parts.toList ps) (h : Fil [(0, 1), (1, 1)] ps [.slice none 0 0, .int .i64 0] cs) : Pur Try.prog ⟨dst, .build 28 parts, T, p, e, g⟩ F n (.agg cs.toArray) :=
  p_build ty28 Try.underlying28 (by intro w; simp [ty23.sizeOf, ty3.sizeOf]) hps h
theorem bld36 {F : Env} {n : Nat} {dst : Option Tmp} {T : TypeId} {p : String} {e : Array Edge} {g : Option (Nat × Bool)} {parts : Array (Nat × Operand)} {ps : List (Nat × Value)} {cs : List Value} (hps : Parts F parts.toList ps) (h : Fil [(0, 1), (1, 1)] ps [.int .i64 0, .int .i64 0] cs) : Pur Try.prog ⟨dst, .build 36 parts, T, p, e, g⟩ F n (.agg cs.toArray) :=
  p_build ty36 Try.underlying36 (by intro w; simp [ty3.sizeOf]) hps h
theorem bld39 {F : Env} {n : Nat} {dst : Option Tmp} {T : TypeId} {p : String} {e : Array Edge} {g : Option (Nat × Bool)} {parts : Array (Nat × Operand)} {ps : List (Nat × Value)} {cs : List Value} (hps : Parts F parts.toList ps) (h : Fil [(0, 1), (1, 1), (2, 1), (3, 1), (4, 1), (5, 1), (6, 1), (7, 1)] ps [.int .i64 0, .int .i64 0, .int .u32 0, .int .u32 0, .int .u32 0, .int .u32 0, .int .u32 0, .int .u32 0] cs) : Pur Try.prog ⟨dst, .build 39 parts, T, p, e, g⟩ F n (.agg cs.toArray) :=
  p_build ty39 Try.underlying39 (by intro w; simp [ty3.sizeOf, ty37.sizeOf]) hps h
theorem bld41 {F : Env} {n : Nat} {dst : Option Tmp} {T : TypeId} {p : String} {e : Array Edge} {g : Option (Nat × Bool)} {parts : Array (Nat × Operand)} {ps : List (Nat × Value)} {cs : List Value} (hps : Parts F parts.toList ps) (h : Fil [(0, 2), (2, 8), (10, 1), (11, 1), (12, 1)] ps [.int .i64 0, .int .i64 0, .int .i64 0, .int .i64 0, .int .u32 0, .int .u32 0, .int .u32 0, .int .u32 0, .int .u32 0, .int .u32 0, .int .i64 0, .bool false, .bool false] cs) : Pur Try.prog ⟨dst, .build 41 parts, T, p, e, g⟩ F n (.agg cs.toArray) :=
  p_build ty41 Try.underlying41 (by intro w; simp [ty3.sizeOf, ty36.sizeOf, ty39.sizeOf, ty4.sizeOf]) hps h
theorem bld42 {F : Env} {n : Nat} {dst : Option Tmp} {T : TypeId} {p : String} {e : Array Edge} {g : Option (Nat × Bool)} {parts : Array (Nat × Operand)} {ps : List (Nat × Value)} {cs : List Value} (hps : Parts F parts.toList ps) (h : Fil [(0, 2), (2, 8), (10, 1), (11, 1), (12, 1)] ps [.int .i64 0, .int .i64 0, .int .i64 0, .int .i64 0, .int .u32 0, .int .u32 0, .int .u32 0, .int .u32 0, .int .u32 0, .int .u32 0, .int .i64 0, .bool false, .bool false] cs) : Pur Try.prog ⟨dst, .build 42 parts, T, p, e, g⟩ F n (.agg cs.toArray) :=
  p_build ty42 Try.underlying42 (by intro w; simp [ty3.sizeOf, ty36.sizeOf, ty39.sizeOf, ty4.sizeOf]) hps h
theorem bld52 {F : Env} {n : Nat} {dst : Option Tmp} {T : TypeId} {p : String} {e : Array Edge} {g : Option (Nat × Bool)} {parts : Array (Nat × Operand)} {ps : List (Nat × Value)} {cs : List Value} (hps : Parts F parts.toList ps) (h : Fil [(0, 2), (2, 1)] ps [.int .i64 0, .int .i64 0, .int .i64 0] cs) : Pur Try.prog ⟨dst, .build 52 parts, T, p, e, g⟩ F n (.agg cs.toArray) :=
  p_build ty52 Try.underlying52 (by intro w; simp [ty3.sizeOf, ty36.sizeOf]) hps h
theorem bld56 {F : Env} {n : Nat} {dst : Option Tmp} {T : TypeId} {p : String} {e : Array Edge} {g : Option (Nat × Bool)} {parts : Array (Nat × Operand)} {ps : List (Nat × Value)} {cs : List Value} (hps : Parts F parts.toList ps) (h : Fil [(0, 2), (2, 1), (3, 1), (4, 1)] ps [.int .i64 0, .int .i64 0, .int .u32 0, .int .i64 0, .bool false] cs) : Pur Try.prog ⟨dst, .build 56 parts, T, p, e, g⟩ F n (.agg cs.toArray) :=
  p_build ty56 Try.underlying56 (by intro w; simp [ty3.sizeOf, ty36.sizeOf, ty37.sizeOf, ty4.sizeOf]) hps h
theorem bld68 {F : Env} {n : Nat} {dst : Option Tmp} {T : TypeId} {p : String} {e : Array Edge} {g : Option (Nat × Bool)} {parts : Array (Nat × Operand)} {ps : List (Nat × Value)} {cs : List Value} (hps : Parts F parts.toList ps) (h : Fil [(0, 2), (2, 1), (3, 1), (4, 1), (5, 1), (6, 1)] ps [.int .i64 0, .int .i64 0, .int .u32 0, .int .i64 0, .int .i64 0, .int .u32 0, .bool false] cs) : Pur Try.prog ⟨dst, .build 68 parts, T, p, e, g⟩ F n (.agg cs.toArray) :=
  p_build ty68 Try.underlying68 (by intro w; simp [ty3.sizeOf, ty36.sizeOf, ty37.sizeOf, ty4.sizeOf]) hps h
theorem bld104 {F : Env} {n : Nat} {dst : Option Tmp} {T : TypeId} {p : String} {e : Array Edge} {g : Option (Nat × Bool)} {parts : Array (Nat × Operand)} {ps : List (Nat × Value)} {cs : List Value} (hps : Parts F parts.toList ps) (h : Fil [(0, 2), (2, 1)] ps [.int .i64 0, .int .i64 0, .int .i64 0] cs) : Pur Try.prog ⟨dst, .build 104 parts, T, p, e, g⟩ F n (.agg cs.toArray) :=
  p_build ty104 Try.underlying104 (by intro w; simp [ty3.sizeOf, ty36.sizeOf]) hps h
theorem bld107 {F : Env} {n : Nat} {dst : Option Tmp} {T : TypeId} {p : String} {e : Array Edge} {g : Option (Nat × Bool)} {parts : Array (Nat × Operand)} {ps : List (Nat × Value)} {cs : List Value} (hps : Parts F parts.toList ps) (h : Fil [(0, 2), (2, 1), (3, 1), (4, 1)] ps [.int .i64 0, .int .i64 0, .int .u32 0, .int .i64 0, .bool false] cs) : Pur Try.prog ⟨dst, .build 107 parts, T, p, e, g⟩ F n (.agg cs.toArray) :=
  p_build ty107 Try.underlying107 (by intro w; simp [ty3.sizeOf, ty36.sizeOf, ty37.sizeOf, ty4.sizeOf]) hps h
theorem bld175 {F : Env} {n : Nat} {dst : Option Tmp} {T : TypeId} {p : String} {e : Array Edge} {g : Option (Nat × Bool)} {parts : Array (Nat × Operand)} {ps : List (Nat × Value)} {cs : List Value} (hps : Parts F parts.toList ps) (h : Fil [(0, 1), (1, 2)] ps [.int .u64 0, .int .i64 0, .int .i64 0] cs) : Pur Try.prog ⟨dst, .build 175 parts, T, p, e, g⟩ F n (.agg cs.toArray) :=
  p_build ty175 Try.underlying175 (by intro w; simp [ty136.sizeOf, ty36.sizeOf]) hps h
theorem bld184 {F : Env} {n : Nat} {dst : Option Tmp} {T : TypeId} {p : String} {e : Array Edge} {g : Option (Nat × Bool)} {parts : Array (Nat × Operand)} {ps : List (Nat × Value)} {cs : List Value} (hps : Parts F parts.toList ps) (h : Fil [(0, 1), (1, 2)] ps [.int .u64 0, .int .i64 0, .int .i64 0] cs) : Pur Try.prog ⟨dst, .build 184 parts, T, p, e, g⟩ F n (.agg cs.toArray) :=
  p_build ty184 Try.underlying184 (by intro w; simp [ty136.sizeOf, ty36.sizeOf]) hps h
theorem shp36 : Try.prog.stoodInHeld 36 = false := by kernel_rfl
theorem flds36 : Try.prog.underlying 36 = some (.struct (Try.prog.fieldsOf 36)) := by kernel_rfl
theorem eqin36 (a0 b0 : Int) (a1 b1 : Int) (D : Nat) (w : World) : (Op.equalIn (D + 2) 36 (.agg #[.int .i64 a0, .int .i64 a1]) (.agg #[.int .i64 b0, .int .i64 b1])).run Try.prog w = .ok (decide (a0 = b0 ∧ a1 = b1)) w := by
  have h0 := run_equalIn_int (P := Try.prog) w (D + 0) 3 .i64 .i64 a0 b0 Try.underlying3
  have h1 := run_equalIn_int (P := Try.prog) w (D + 0) 3 .i64 .i64 a1 b1 Try.underlying3
  simp only [Nat.add_zero] at h0 h1
  rw [run_equalIn_struct w (D + 1) 36 _ _ flds36 shp36]
  simp only [Program.fieldsOf, Try.underlying36]
  simp [Op.eqFields, part, ty3.isAgg, ty3.sizeOf, h0, h1]
  (repeat' split) <;> simp_all
theorem eg36 (op : BinOp) (x y : Operand) (xs ys : Array Value) (w : World) : (eqGuard op 36 x y (.agg xs) (.agg ys)).run Try.prog w = .ok () w := run_eqGuard_agg w op 36 x y xs ys (by kernel_rfl)
theorem eqv36 (a0 b0 : Int) (a1 b1 : Int) (w : World) : (binOp .eql 36 (.agg #[.int .i64 a0, .int .i64 a1]) (.agg #[.int .i64 b0, .int .i64 b1])).run Try.prog w = .ok (.bool (decide (a0 = b0 ∧ a1 = b1))) w := by
  have h := eqin36 a0 b0 a1 b1 9998 w
  rw [(by decide : 9998 + 2 = 10000)] at h
  rw [run_eql_struct w 36, h]; rfl
theorem nev36 (a0 b0 : Int) (a1 b1 : Int) (w : World) : (binOp .neq 36 (.agg #[.int .i64 a0, .int .i64 a1]) (.agg #[.int .i64 b0, .int .i64 b1])).run Try.prog w = .ok (.bool (!decide (a0 = b0 ∧ a1 = b1))) w := by
  have h := eqin36 a0 b0 a1 b1 9998 w
  rw [(by decide : 9998 + 2 = 10000)] at h
  rw [run_neq_struct w 36, h]; rfl
theorem shp39 : Try.prog.stoodInHeld 39 = false := by kernel_rfl
theorem flds39 : Try.prog.underlying 39 = some (.struct (Try.prog.fieldsOf 39)) := by kernel_rfl
theorem eqin39 (a0 b0 : Int) (a1 b1 : Int) (a2 b2 : Int) (a3 b3 : Int) (a4 b4 : Int) (a5 b5 : Int) (a6 b6 : Int) (a7 b7 : Int) (D : Nat) (w : World) : (Op.equalIn (D + 2) 39 (.agg #[.int .i64 a0, .int .i64 a1, .int .u32 a2, .int .u32 a3, .int .u32 a4, .int .u32 a5, .int .u32 a6, .int .u32 a7]) (.agg #[.int .i64 b0, .int .i64 b1, .int .u32 b2, .int .u32 b3, .int .u32 b4, .int .u32 b5, .int .u32 b6, .int .u32 b7])).run Try.prog w = .ok (decide (a0 = b0 ∧ a1 = b1 ∧ a2 = b2 ∧ a3 = b3 ∧ a4 = b4 ∧ a5 = b5 ∧ a6 = b6 ∧ a7 = b7)) w := by
  have h0 := run_equalIn_int (P := Try.prog) w (D + 0) 3 .i64 .i64 a0 b0 Try.underlying3
  have h1 := run_equalIn_int (P := Try.prog) w (D + 0) 3 .i64 .i64 a1 b1 Try.underlying3
  have h2 := run_equalIn_int (P := Try.prog) w (D + 0) 37 .u32 .u32 a2 b2 Try.underlying37
  have h3 := run_equalIn_int (P := Try.prog) w (D + 0) 37 .u32 .u32 a3 b3 Try.underlying37
  have h4 := run_equalIn_int (P := Try.prog) w (D + 0) 37 .u32 .u32 a4 b4 Try.underlying37
  have h5 := run_equalIn_int (P := Try.prog) w (D + 0) 37 .u32 .u32 a5 b5 Try.underlying37
  have h6 := run_equalIn_int (P := Try.prog) w (D + 0) 37 .u32 .u32 a6 b6 Try.underlying37
  have h7 := run_equalIn_int (P := Try.prog) w (D + 0) 37 .u32 .u32 a7 b7 Try.underlying37
  simp only [Nat.add_zero] at h0 h1 h2 h3 h4 h5 h6 h7
  rw [run_equalIn_struct w (D + 1) 39 _ _ flds39 shp39]
  simp only [Program.fieldsOf, Try.underlying39]
  simp [Op.eqFields, part, ty3.isAgg, ty3.sizeOf, ty37.isAgg, ty37.sizeOf, h0, h1, h2, h3, h4, h5, h6, h7]
  (repeat' split) <;> simp_all
theorem eg39 (op : BinOp) (x y : Operand) (xs ys : Array Value) (w : World) : (eqGuard op 39 x y (.agg xs) (.agg ys)).run Try.prog w = .ok () w := run_eqGuard_agg w op 39 x y xs ys (by kernel_rfl)
theorem eqv39 (a0 b0 : Int) (a1 b1 : Int) (a2 b2 : Int) (a3 b3 : Int) (a4 b4 : Int) (a5 b5 : Int) (a6 b6 : Int) (a7 b7 : Int) (w : World) : (binOp .eql 39 (.agg #[.int .i64 a0, .int .i64 a1, .int .u32 a2, .int .u32 a3, .int .u32 a4, .int .u32 a5, .int .u32 a6, .int .u32 a7]) (.agg #[.int .i64 b0, .int .i64 b1, .int .u32 b2, .int .u32 b3, .int .u32 b4, .int .u32 b5, .int .u32 b6, .int .u32 b7])).run Try.prog w = .ok (.bool (decide (a0 = b0 ∧ a1 = b1 ∧ a2 = b2 ∧ a3 = b3 ∧ a4 = b4 ∧ a5 = b5 ∧ a6 = b6 ∧ a7 = b7))) w := by
  have h := eqin39 a0 b0 a1 b1 a2 b2 a3 b3 a4 b4 a5 b5 a6 b6 a7 b7 9998 w
  rw [(by decide : 9998 + 2 = 10000)] at h
  rw [run_eql_struct w 39, h]; rfl
theorem nev39 (a0 b0 : Int) (a1 b1 : Int) (a2 b2 : Int) (a3 b3 : Int) (a4 b4 : Int) (a5 b5 : Int) (a6 b6 : Int) (a7 b7 : Int) (w : World) : (binOp .neq 39 (.agg #[.int .i64 a0, .int .i64 a1, .int .u32 a2, .int .u32 a3, .int .u32 a4, .int .u32 a5, .int .u32 a6, .int .u32 a7]) (.agg #[.int .i64 b0, .int .i64 b1, .int .u32 b2, .int .u32 b3, .int .u32 b4, .int .u32 b5, .int .u32 b6, .int .u32 b7])).run Try.prog w = .ok (.bool (!decide (a0 = b0 ∧ a1 = b1 ∧ a2 = b2 ∧ a3 = b3 ∧ a4 = b4 ∧ a5 = b5 ∧ a6 = b6 ∧ a7 = b7))) w := by
  have h := eqin39 a0 b0 a1 b1 a2 b2 a3 b3 a4 b4 a5 b5 a6 b6 a7 b7 9998 w
  rw [(by decide : 9998 + 2 = 10000)] at h
  rw [run_neq_struct w 39, h]; rfl
theorem zv_of {P : Program} {t : TypeId} {z : Value} (h : (P.info? t).bind (·.zero) = some z) : (P.info? t).bind (·.zero) = some z := h
theorem zv4 : (Try.prog.info? 4).bind (·.zero) = some (.bool false) := by kernel_rfl
theorem ky36 : Ky Try.prog 36 (fun a : Int × Int => Value.agg #[.int .i64 a.1, .int .i64 a.2]) := by
  refine ky_struct Try.underlying36 (fun a => ?_) (fun a em w => ?_) (fun a b w => ?_)
  · have : ∀ n, Instr.sameBits (n + 2) (.agg #[.int .i64 a.1, .int .i64 a.2]) (.agg #[.int .i64 a.1, .int .i64 a.2]) = true := fun n => by simp [Instr.sameBits]
    have h := this 9998
    rw [(by decide : 9998 + 2 = 10000)] at h
    exact h
  · have : ∀ n, (Instr.checkKey em (n + 2) 36 (.agg #[.int .i64 a.1, .int .i64 a.2])).run Try.prog w = .ok () w := fun n => by
      simp [Instr.checkKey, run_underlying Try.underlying36, part, run_underlying Try.underlying3, ty3.isAgg]
    have h := this 9998
    rw [(by decide : 9998 + 2 = 10000)] at h
    exact h
  · have h := eqin36 a.1 b.1 a.2 b.2 9998 w
    rw [(by decide : 9998 + 2 = 10000)] at h
    have e : decide (a.1 = b.1 ∧ a.2 = b.2) = decide (a = b) := by rw [decide_eq_decide]; exact Prod.ext_iff.symm
    rw [e] at h
    exact h
theorem nm3 : (Try.f3.name == "runtime.NumGoroutine") = false := by kernel_rfl
theorem bd3 : Try.f3.body.isNone = false := by kernel_rfl
theorem nm4 : (Try.f4.name == "runtime.NumGoroutine") = false := by kernel_rfl
theorem bd4 : Try.f4.body.isNone = false := by kernel_rfl
theorem nm5 : (Try.f5.name == "runtime.NumGoroutine") = false := by kernel_rfl
theorem bd5 : Try.f5.body.isNone = false := by kernel_rfl
theorem nm6 : (Try.f6.name == "runtime.NumGoroutine") = false := by kernel_rfl
theorem bd6 : Try.f6.body.isNone = false := by kernel_rfl
theorem nm7 : (Try.f7.name == "runtime.NumGoroutine") = false := by kernel_rfl
theorem bd7 : Try.f7.body.isNone = false := by kernel_rfl
theorem nm8 : (Try.f8.name == "runtime.NumGoroutine") = false := by kernel_rfl
theorem bd8 : Try.f8.body.isNone = false := by kernel_rfl
theorem nm9 : (Try.f9.name == "runtime.NumGoroutine") = false := by kernel_rfl
theorem bd9 : Try.f9.body.isNone = false := by kernel_rfl
theorem nm10 : (Try.f10.name == "runtime.NumGoroutine") = false := by kernel_rfl
theorem bd10 : Try.f10.body.isNone = false := by kernel_rfl
theorem nm11 : (Try.f11.name == "runtime.NumGoroutine") = false := by kernel_rfl
theorem bd11 : Try.f11.body.isNone = false := by kernel_rfl
theorem nm12 : (Try.f12.name == "runtime.NumGoroutine") = false := by kernel_rfl
theorem bd12 : Try.f12.body.isNone = false := by kernel_rfl
theorem nm13 : (Try.f13.name == "runtime.NumGoroutine") = false := by kernel_rfl
theorem bd13 : Try.f13.body.isNone = false := by kernel_rfl
theorem nm14 : (Try.f14.name == "runtime.NumGoroutine") = false := by kernel_rfl
theorem bd14 : Try.f14.body.isNone = false := by kernel_rfl
theorem nm15 : (Try.f15.name == "runtime.NumGoroutine") = false := by kernel_rfl
theorem bd15 : Try.f15.body.isNone = false := by kernel_rfl
theorem nm16 : (Try.f16.name == "runtime.NumGoroutine") = false := by kernel_rfl
theorem bd16 : Try.f16.body.isNone = false := by kernel_rfl
theorem nm17 : (Try.f17.name == "runtime.NumGoroutine") = false := by kernel_rfl
theorem bd17 : Try.f17.body.isNone = false := by kernel_rfl
theorem nm18 : (Try.f18.name == "runtime.NumGoroutine") = false := by kernel_rfl
theorem bd18 : Try.f18.body.isNone = false := by kernel_rfl
theorem nm19 : (Try.f19.name == "runtime.NumGoroutine") = false := by kernel_rfl
theorem bd19 : Try.f19.body.isNone = false := by kernel_rfl
theorem nm20 : (Try.f20.name == "runtime.NumGoroutine") = false := by kernel_rfl
theorem bd20 : Try.f20.body.isNone = false := by kernel_rfl
theorem nm21 : (Try.f21.name == "runtime.NumGoroutine") = false := by kernel_rfl
theorem bd21 : Try.f21.body.isNone = false := by kernel_rfl
theorem nm22 : (Try.f22.name == "runtime.NumGoroutine") = false := by kernel_rfl
theorem bd22 : Try.f22.body.isNone = false := by kernel_rfl
theorem nm23 : (Try.f23.name == "runtime.NumGoroutine") = false := by kernel_rfl
theorem bd23 : Try.f23.body.isNone = false := by kernel_rfl
theorem nm24 : (Try.f24.name == "runtime.NumGoroutine") = false := by kernel_rfl
theorem bd24 : Try.f24.body.isNone = false := by kernel_rfl
theorem nm25 : (Try.f25.name == "runtime.NumGoroutine") = false := by kernel_rfl
theorem bd25 : Try.f25.body.isNone = false := by kernel_rfl
theorem nm26 : (Try.f26.name == "runtime.NumGoroutine") = false := by kernel_rfl
theorem bd26 : Try.f26.body.isNone = false := by kernel_rfl
theorem nm27 : (Try.f27.name == "runtime.NumGoroutine") = false := by kernel_rfl
theorem bd27 : Try.f27.body.isNone = false := by kernel_rfl
theorem nm28 : (Try.f28.name == "runtime.NumGoroutine") = false := by kernel_rfl
theorem bd28 : Try.f28.body.isNone = false := by kernel_rfl
theorem nm29 : (Try.f29.name == "runtime.NumGoroutine") = false := by kernel_rfl
theorem bd29 : Try.f29.body.isNone = false := by kernel_rfl
theorem nm30 : (Try.f30.name == "runtime.NumGoroutine") = false := by kernel_rfl
theorem bd30 : Try.f30.body.isNone = false := by kernel_rfl
theorem nm31 : (Try.f31.name == "runtime.NumGoroutine") = false := by kernel_rfl
theorem bd31 : Try.f31.body.isNone = false := by kernel_rfl
theorem nm32 : (Try.f32.name == "runtime.NumGoroutine") = false := by kernel_rfl
theorem bd32 : Try.f32.body.isNone = false := by kernel_rfl
theorem nm33 : (Try.f33.name == "runtime.NumGoroutine") = false := by kernel_rfl
theorem bd33 : Try.f33.body.isNone = false := by kernel_rfl
theorem nm34 : (Try.f34.name == "runtime.NumGoroutine") = false := by kernel_rfl
theorem bd34 : Try.f34.body.isNone = false := by kernel_rfl
theorem nm35 : (Try.f35.name == "runtime.NumGoroutine") = false := by kernel_rfl
theorem bd35 : Try.f35.body.isNone = false := by kernel_rfl
theorem nm36 : (Try.f36.name == "runtime.NumGoroutine") = false := by kernel_rfl
theorem bd36 : Try.f36.body.isNone = false := by kernel_rfl
theorem nm37 : (Try.f37.name == "runtime.NumGoroutine") = false := by kernel_rfl
theorem bd37 : Try.f37.body.isNone = false := by kernel_rfl
theorem nm38 : (Try.f38.name == "runtime.NumGoroutine") = false := by kernel_rfl
theorem bd38 : Try.f38.body.isNone = false := by kernel_rfl
theorem nm39 : (Try.f39.name == "runtime.NumGoroutine") = false := by kernel_rfl
theorem bd39 : Try.f39.body.isNone = false := by kernel_rfl
theorem nm40 : (Try.f40.name == "runtime.NumGoroutine") = false := by kernel_rfl
theorem bd40 : Try.f40.body.isNone = false := by kernel_rfl
theorem nm41 : (Try.f41.name == "runtime.NumGoroutine") = false := by kernel_rfl
theorem bd41 : Try.f41.body.isNone = false := by kernel_rfl
theorem nm42 : (Try.f42.name == "runtime.NumGoroutine") = false := by kernel_rfl
theorem bd42 : Try.f42.body.isNone = false := by kernel_rfl
theorem nm43 : (Try.f43.name == "runtime.NumGoroutine") = false := by kernel_rfl
theorem bd43 : Try.f43.body.isNone = false := by kernel_rfl
theorem nm44 : (Try.f44.name == "runtime.NumGoroutine") = false := by kernel_rfl
theorem bd44 : Try.f44.body.isNone = false := by kernel_rfl
theorem nm45 : (Try.f45.name == "runtime.NumGoroutine") = false := by kernel_rfl
theorem bd45 : Try.f45.body.isNone = false := by kernel_rfl
theorem nm46 : (Try.f46.name == "runtime.NumGoroutine") = false := by kernel_rfl
theorem bd46 : Try.f46.body.isNone = false := by kernel_rfl
theorem nm47 : (Try.f47.name == "runtime.NumGoroutine") = false := by kernel_rfl
theorem bd47 : Try.f47.body.isNone = false := by kernel_rfl
theorem nm48 : (Try.f48.name == "runtime.NumGoroutine") = false := by kernel_rfl
theorem bd48 : Try.f48.body.isNone = false := by kernel_rfl
theorem nm49 : (Try.f49.name == "runtime.NumGoroutine") = false := by kernel_rfl
theorem bd49 : Try.f49.body.isNone = false := by kernel_rfl
theorem nm50 : (Try.f50.name == "runtime.NumGoroutine") = false := by kernel_rfl
theorem bd50 : Try.f50.body.isNone = false := by kernel_rfl
theorem nm51 : (Try.f51.name == "runtime.NumGoroutine") = false := by kernel_rfl
theorem bd51 : Try.f51.body.isNone = false := by kernel_rfl
theorem nm52 : (Try.f52.name == "runtime.NumGoroutine") = false := by kernel_rfl
theorem bd52 : Try.f52.body.isNone = false := by kernel_rfl
theorem nm53 : (Try.f53.name == "runtime.NumGoroutine") = false := by kernel_rfl
theorem bd53 : Try.f53.body.isNone = false := by kernel_rfl
theorem nm54 : (Try.f54.name == "runtime.NumGoroutine") = false := by kernel_rfl
theorem bd54 : Try.f54.body.isNone = false := by kernel_rfl
theorem nm55 : (Try.f55.name == "runtime.NumGoroutine") = false := by kernel_rfl
theorem bd55 : Try.f55.body.isNone = false := by kernel_rfl
theorem nm56 : (Try.f56.name == "runtime.NumGoroutine") = false := by kernel_rfl
theorem bd56 : Try.f56.body.isNone = false := by kernel_rfl
theorem nm57 : (Try.f57.name == "runtime.NumGoroutine") = false := by kernel_rfl
theorem bd57 : Try.f57.body.isNone = false := by kernel_rfl
theorem nm58 : (Try.f58.name == "runtime.NumGoroutine") = false := by kernel_rfl
theorem bd58 : Try.f58.body.isNone = false := by kernel_rfl
theorem nm59 : (Try.f59.name == "runtime.NumGoroutine") = false := by kernel_rfl
theorem bd59 : Try.f59.body.isNone = false := by kernel_rfl
theorem nm60 : (Try.f60.name == "runtime.NumGoroutine") = false := by kernel_rfl
theorem bd60 : Try.f60.body.isNone = false := by kernel_rfl
theorem nm61 : (Try.f61.name == "runtime.NumGoroutine") = false := by kernel_rfl
theorem bd61 : Try.f61.body.isNone = false := by kernel_rfl
theorem nm62 : (Try.f62.name == "runtime.NumGoroutine") = false := by kernel_rfl
theorem bd62 : Try.f62.body.isNone = false := by kernel_rfl
theorem nm63 : (Try.f63.name == "runtime.NumGoroutine") = false := by kernel_rfl
theorem bd63 : Try.f63.body.isNone = false := by kernel_rfl
theorem nm64 : (Try.f64.name == "runtime.NumGoroutine") = false := by kernel_rfl
theorem bd64 : Try.f64.body.isNone = false := by kernel_rfl
theorem nm65 : (Try.f65.name == "runtime.NumGoroutine") = false := by kernel_rfl
theorem bd65 : Try.f65.body.isNone = false := by kernel_rfl
theorem nm66 : (Try.f66.name == "runtime.NumGoroutine") = false := by kernel_rfl
theorem bd66 : Try.f66.body.isNone = false := by kernel_rfl
theorem nm67 : (Try.f67.name == "runtime.NumGoroutine") = false := by kernel_rfl
theorem bd67 : Try.f67.body.isNone = false := by kernel_rfl
theorem nm68 : (Try.f68.name == "runtime.NumGoroutine") = false := by kernel_rfl
theorem bd68 : Try.f68.body.isNone = false := by kernel_rfl
theorem nm69 : (Try.f69.name == "runtime.NumGoroutine") = false := by kernel_rfl
theorem bd69 : Try.f69.body.isNone = false := by kernel_rfl
theorem nm70 : (Try.f70.name == "runtime.NumGoroutine") = false := by kernel_rfl
theorem bd70 : Try.f70.body.isNone = false := by kernel_rfl
theorem nm71 : (Try.f71.name == "runtime.NumGoroutine") = false := by kernel_rfl
theorem bd71 : Try.f71.body.isNone = false := by kernel_rfl
theorem nm72 : (Try.f72.name == "runtime.NumGoroutine") = false := by kernel_rfl
theorem bd72 : Try.f72.body.isNone = false := by kernel_rfl
theorem nm73 : (Try.f73.name == "runtime.NumGoroutine") = false := by kernel_rfl
theorem bd73 : Try.f73.body.isNone = false := by kernel_rfl
theorem nm74 : (Try.f74.name == "runtime.NumGoroutine") = false := by kernel_rfl
theorem bd74 : Try.f74.body.isNone = false := by kernel_rfl
theorem nm75 : (Try.f75.name == "runtime.NumGoroutine") = false := by kernel_rfl
theorem bd75 : Try.f75.body.isNone = false := by kernel_rfl
theorem nm76 : (Try.f76.name == "runtime.NumGoroutine") = false := by kernel_rfl
theorem bd76 : Try.f76.body.isNone = false := by kernel_rfl
theorem nm77 : (Try.f77.name == "runtime.NumGoroutine") = false := by kernel_rfl
theorem bd77 : Try.f77.body.isNone = false := by kernel_rfl
theorem nm78 : (Try.f78.name == "runtime.NumGoroutine") = false := by kernel_rfl
theorem bd78 : Try.f78.body.isNone = false := by kernel_rfl
theorem nm79 : (Try.f79.name == "runtime.NumGoroutine") = false := by kernel_rfl
theorem bd79 : Try.f79.body.isNone = false := by kernel_rfl
theorem nm80 : (Try.f80.name == "runtime.NumGoroutine") = false := by kernel_rfl
theorem bd80 : Try.f80.body.isNone = false := by kernel_rfl
theorem nm81 : (Try.f81.name == "runtime.NumGoroutine") = false := by kernel_rfl
theorem bd81 : Try.f81.body.isNone = false := by kernel_rfl
theorem nm82 : (Try.f82.name == "runtime.NumGoroutine") = false := by kernel_rfl
theorem bd82 : Try.f82.body.isNone = false := by kernel_rfl
theorem nm83 : (Try.f83.name == "runtime.NumGoroutine") = false := by kernel_rfl
theorem bd83 : Try.f83.body.isNone = false := by kernel_rfl
theorem nm84 : (Try.f84.name == "runtime.NumGoroutine") = false := by kernel_rfl
theorem bd84 : Try.f84.body.isNone = false := by kernel_rfl
theorem nm85 : (Try.f85.name == "runtime.NumGoroutine") = false := by kernel_rfl
theorem bd85 : Try.f85.body.isNone = false := by kernel_rfl
theorem nm86 : (Try.f86.name == "runtime.NumGoroutine") = false := by kernel_rfl
theorem bd86 : Try.f86.body.isNone = false := by kernel_rfl
theorem nm87 : (Try.f87.name == "runtime.NumGoroutine") = false := by kernel_rfl
theorem bd87 : Try.f87.body.isNone = false := by kernel_rfl
theorem nm88 : (Try.f88.name == "runtime.NumGoroutine") = false := by kernel_rfl
theorem bd88 : Try.f88.body.isNone = false := by kernel_rfl
theorem nm89 : (Try.f89.name == "runtime.NumGoroutine") = false := by kernel_rfl
theorem bd89 : Try.f89.body.isNone = false := by kernel_rfl
theorem nm90 : (Try.f90.name == "runtime.NumGoroutine") = false := by kernel_rfl
theorem bd90 : Try.f90.body.isNone = false := by kernel_rfl
theorem nm91 : (Try.f91.name == "runtime.NumGoroutine") = false := by kernel_rfl
theorem bd91 : Try.f91.body.isNone = false := by kernel_rfl
theorem nm92 : (Try.f92.name == "runtime.NumGoroutine") = false := by kernel_rfl
theorem bd92 : Try.f92.body.isNone = false := by kernel_rfl
theorem nm93 : (Try.f93.name == "runtime.NumGoroutine") = false := by kernel_rfl
theorem bd93 : Try.f93.body.isNone = false := by kernel_rfl
theorem nm94 : (Try.f94.name == "runtime.NumGoroutine") = false := by kernel_rfl
theorem bd94 : Try.f94.body.isNone = false := by kernel_rfl
theorem nm95 : (Try.f95.name == "runtime.NumGoroutine") = false := by kernel_rfl
theorem bd95 : Try.f95.body.isNone = false := by kernel_rfl
theorem nm96 : (Try.f96.name == "runtime.NumGoroutine") = false := by kernel_rfl
theorem bd96 : Try.f96.body.isNone = false := by kernel_rfl
theorem nm97 : (Try.f97.name == "runtime.NumGoroutine") = false := by kernel_rfl
theorem bd97 : Try.f97.body.isNone = false := by kernel_rfl
theorem nm98 : (Try.f98.name == "runtime.NumGoroutine") = false := by kernel_rfl
theorem bd98 : Try.f98.body.isNone = false := by kernel_rfl
theorem nm99 : (Try.f99.name == "runtime.NumGoroutine") = false := by kernel_rfl
theorem bd99 : Try.f99.body.isNone = false := by kernel_rfl
theorem nm100 : (Try.f100.name == "runtime.NumGoroutine") = false := by kernel_rfl
theorem bd100 : Try.f100.body.isNone = false := by kernel_rfl
theorem nm101 : (Try.f101.name == "runtime.NumGoroutine") = false := by kernel_rfl
theorem bd101 : Try.f101.body.isNone = false := by kernel_rfl
theorem nm102 : (Try.f102.name == "runtime.NumGoroutine") = false := by kernel_rfl
theorem bd102 : Try.f102.body.isNone = false := by kernel_rfl
theorem nm103 : (Try.f103.name == "runtime.NumGoroutine") = false := by kernel_rfl
theorem bd103 : Try.f103.body.isNone = false := by kernel_rfl
theorem nm104 : (Try.f104.name == "runtime.NumGoroutine") = false := by kernel_rfl
theorem bd104 : Try.f104.body.isNone = false := by kernel_rfl
theorem nm105 : (Try.f105.name == "runtime.NumGoroutine") = false := by kernel_rfl
theorem bd105 : Try.f105.body.isNone = false := by kernel_rfl
theorem nm106 : (Try.f106.name == "runtime.NumGoroutine") = false := by kernel_rfl
theorem bd106 : Try.f106.body.isNone = false := by kernel_rfl
theorem nm107 : (Try.f107.name == "runtime.NumGoroutine") = false := by kernel_rfl
theorem bd107 : Try.f107.body.isNone = false := by kernel_rfl
theorem nm108 : (Try.f108.name == "runtime.NumGoroutine") = false := by kernel_rfl
theorem bd108 : Try.f108.body.isNone = false := by kernel_rfl
theorem nm109 : (Try.f109.name == "runtime.NumGoroutine") = false := by kernel_rfl
theorem bd109 : Try.f109.body.isNone = false := by kernel_rfl
theorem nm110 : (Try.f110.name == "runtime.NumGoroutine") = false := by kernel_rfl
theorem bd110 : Try.f110.body.isNone = false := by kernel_rfl
theorem nm111 : (Try.f111.name == "runtime.NumGoroutine") = false := by kernel_rfl
theorem bd111 : Try.f111.body.isNone = false := by kernel_rfl
theorem nm112 : (Try.f112.name == "runtime.NumGoroutine") = false := by kernel_rfl
theorem bd112 : Try.f112.body.isNone = false := by kernel_rfl
theorem nm113 : (Try.f113.name == "runtime.NumGoroutine") = false := by kernel_rfl
theorem bd113 : Try.f113.body.isNone = false := by kernel_rfl
theorem nm114 : (Try.f114.name == "runtime.NumGoroutine") = false := by kernel_rfl
theorem bd114 : Try.f114.body.isNone = false := by kernel_rfl
theorem nm115 : (Try.f115.name == "runtime.NumGoroutine") = false := by kernel_rfl
theorem bd115 : Try.f115.body.isNone = false := by kernel_rfl
theorem nm116 : (Try.f116.name == "runtime.NumGoroutine") = false := by kernel_rfl
theorem bd116 : Try.f116.body.isNone = false := by kernel_rfl
theorem nm117 : (Try.f117.name == "runtime.NumGoroutine") = false := by kernel_rfl
theorem bd117 : Try.f117.body.isNone = false := by kernel_rfl
theorem nm118 : (Try.f118.name == "runtime.NumGoroutine") = false := by kernel_rfl
theorem nm119 : (Try.f119.name == "runtime.NumGoroutine") = false := by kernel_rfl
theorem bd119 : Try.f119.body.isNone = false := by kernel_rfl
theorem nm120 : (Try.f120.name == "runtime.NumGoroutine") = false := by kernel_rfl
theorem bd120 : Try.f120.body.isNone = false := by kernel_rfl
theorem nm121 : (Try.f121.name == "runtime.NumGoroutine") = false := by kernel_rfl
theorem bd121 : Try.f121.body.isNone = false := by kernel_rfl
theorem nm122 : (Try.f122.name == "runtime.NumGoroutine") = false := by kernel_rfl
theorem bd122 : Try.f122.body.isNone = false := by kernel_rfl
theorem nm123 : (Try.f123.name == "runtime.NumGoroutine") = false := by kernel_rfl
theorem bd123 : Try.f123.body.isNone = false := by kernel_rfl
theorem nm124 : (Try.f124.name == "runtime.NumGoroutine") = false := by kernel_rfl
theorem bd124 : Try.f124.body.isNone = false := by kernel_rfl
theorem mixed : Try.prog.follows .mixedOrders = true := by kernel_rfl
end Go.Pse
