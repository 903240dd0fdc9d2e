/- Closed facts on the types of the translation, by a program of this session (genty.py). -/
import Derived.Test.YtkdifbmjhkfgoaaProg
import Derived.Test.YtkdifbmjhkfgoaaMap
import Derived.Laws.StructEq
import Derived.KernelRfl
namespace Go.Pse
open Go.RowKit
open Go.Proofs

theorem ty3 : Ty Try.prog 3 1 8 false [.int .i64 0] := ⟨by kernel_rfl, by rw [Try.underlying3]; rfl⟩
theorem ty4 : Ty Try.prog 4 1 1 false [.bool false] := ⟨by kernel_rfl, by rw [Try.underlying4]; rfl⟩
theorem ty5 : Ty Try.prog 5 1 1 false [.int .u8 0] := ⟨by kernel_rfl, by rw [Try.underlying5]; rfl⟩
theorem ty9 : Ty Try.prog 9 1 16 false [.string ⟨#[]⟩] := ⟨by kernel_rfl, by rw [Try.underlying9]; rfl⟩
theorem ty21 : Ty Try.prog 21 1 4 false [.int .i32 0] := ⟨by kernel_rfl, by rw [Try.underlying21]; rfl⟩
theorem ty22 : Ty Try.prog 22 1 24 false [.slice none 0 0] := ⟨by kernel_rfl, by rw [Try.underlying22]; rfl⟩
theorem ty24 : Ty Try.prog 24 1 8 false [.pointer none] := ⟨by kernel_rfl, by rw [Try.underlying24]; rfl⟩
theorem ty27 : Ty Try.prog 27 5 40 true [.int .i64 0, .int .i64 0, .int .i64 0, .int .i64 0, .bool false] := ⟨by kernel_rfl, by rw [Try.underlying27]; rfl⟩
theorem ty28 : Ty Try.prog 28 1 8 false [.pointer none] := ⟨by kernel_rfl, by rw [Try.underlying28]; rfl⟩
theorem ty35 : Ty Try.prog 35 1 8 false [.int .u64 0] := ⟨by kernel_rfl, by rw [Try.underlying35]; rfl⟩
theorem ty40 : Ty Try.prog 40 1 8 false [.pointer none] := ⟨by kernel_rfl, by rw [Try.underlying40]; rfl⟩
theorem ty42 : Ty Try.prog 42 1 8 false [.pointer none] := ⟨by kernel_rfl, by rw [Try.underlying42]; rfl⟩
theorem ty44 : Ty Try.prog 44 1 8 false [.pointer none] := ⟨by kernel_rfl, by rw [Try.underlying44]; rfl⟩
theorem ty46 : Ty Try.prog 46 1 8 false [.pointer none] := ⟨by kernel_rfl, by rw [Try.underlying46]; rfl⟩
theorem ty48 : Ty Try.prog 48 1 8 false [.pointer none] := ⟨by kernel_rfl, by rw [Try.underlying48]; rfl⟩
theorem ty50 : Ty Try.prog 50 1 8 false [.pointer none] := ⟨by kernel_rfl, by rw [Try.underlying50]; rfl⟩
theorem ty52 : Ty Try.prog 52 1 8 false [.pointer none] := ⟨by kernel_rfl, by rw [Try.underlying52]; rfl⟩
theorem ty55 : Ty Try.prog 55 1 8 false [.pointer none] := ⟨by kernel_rfl, by rw [Try.underlying55]; rfl⟩
theorem ty59 : Ty Try.prog 59 1 8 false [.map none] := ⟨by kernel_rfl, by rw [Try.underlying59]; rfl⟩
theorem ty60 : Ty Try.prog 60 1 8 false [.map none] := ⟨by kernel_rfl, by rw [Try.underlying60]; rfl⟩
theorem ty61 : Ty Try.prog 61 1 8 false [.map none] := ⟨by kernel_rfl, by rw [Try.underlying61]; rfl⟩
theorem ty62 : Ty Try.prog 62 1 8 false [.map none] := ⟨by kernel_rfl, by rw [Try.underlying62]; rfl⟩
theorem ty63 : Ty Try.prog 63 1 8 false [.map none] := ⟨by kernel_rfl, by rw [Try.underlying63]; rfl⟩
theorem ty64 : Ty Try.prog 64 1 8 false [.map none] := ⟨by kernel_rfl, by rw [Try.underlying64]; rfl⟩
theorem ty65 : Ty Try.prog 65 1 8 false [.map none] := ⟨by kernel_rfl, by rw [Try.underlying65]; rfl⟩
theorem ty66 : Ty Try.prog 66 1 8 false [.map none] := ⟨by kernel_rfl, by rw [Try.underlying66]; rfl⟩
theorem ty67 : Ty Try.prog 67 1 8 false [.map none] := ⟨by kernel_rfl, by rw [Try.underlying67]; rfl⟩
theorem ty69 : Ty Try.prog 69 1 8 true [.map none] := ⟨by kernel_rfl, by rw [Try.underlying69]; rfl⟩
theorem ty70 : Ty Try.prog 70 1 8 false [.map none] := ⟨by kernel_rfl, by rw [Try.underlying70]; rfl⟩
theorem ty72 : Ty Try.prog 72 1 8 true [.map none] := ⟨by kernel_rfl, by rw [Try.underlying72]; rfl⟩
theorem ty73 : Ty Try.prog 73 1 8 false [.map none] := ⟨by kernel_rfl, by rw [Try.underlying73]; rfl⟩
theorem ty75 : Ty Try.prog 75 1 8 true [.map none] := ⟨by kernel_rfl, by rw [Try.underlying75]; rfl⟩
theorem ty76 : Ty Try.prog 76 1 24 false [.slice none 0 0] := ⟨by kernel_rfl, by rw [Try.underlying76]; rfl⟩
theorem ty78 : Ty Try.prog 78 1 24 true [.slice none 0 0] := ⟨by kernel_rfl, by rw [Try.underlying78]; rfl⟩
theorem ty79 : Ty Try.prog 79 1 8 false [.map none] := ⟨by kernel_rfl, by rw [Try.underlying79]; rfl⟩
theorem ty81 : Ty Try.prog 81 1 8 true [.map none] := ⟨by kernel_rfl, by rw [Try.underlying81]; rfl⟩
theorem ty82 : Ty Try.prog 82 1 24 false [.slice none 0 0] := ⟨by kernel_rfl, by rw [Try.underlying82]; rfl⟩
theorem ty84 : Ty Try.prog 84 1 24 true [.slice none 0 0] := ⟨by kernel_rfl, by rw [Try.underlying84]; rfl⟩
theorem ty85 : Ty Try.prog 85 1 24 false [.slice none 0 0] := ⟨by kernel_rfl, by rw [Try.underlying85]; rfl⟩
theorem ty87 : Ty Try.prog 87 1 24 true [.slice none 0 0] := ⟨by kernel_rfl, by rw [Try.underlying87]; rfl⟩
theorem ty89 : Ty Try.prog 89 23 232 true [.int .i64 0, .int .i64 0, .int .i64 0, .int .i64 0, .bool false, .pointer none, .map none, .map none, .map none, .slice none 0 0, .map none, .slice none 0 0, .slice none 0 0, .map none, .map none, .map none, .map none, .map none, .map none, .map none, .map none, .map none, .int .u64 0] := ⟨by kernel_rfl, by rw [Try.underlying89]; rfl⟩
theorem ty90 : Ty Try.prog 90 1 8 false [.pointer none] := ⟨by kernel_rfl, by rw [Try.underlying90]; rfl⟩
theorem ty91 : Ty Try.prog 91 1 24 false [.slice none 0 0] := ⟨by kernel_rfl, by rw [Try.underlying91]; rfl⟩
theorem ty92 : Ty Try.prog 92 1 24 false [.slice none 0 0] := ⟨by kernel_rfl, by rw [Try.underlying92]; rfl⟩
theorem ty94 : Ty Try.prog 94 2 48 true [.slice none 0 0, .slice none 0 0] := ⟨by kernel_rfl, by rw [Try.underlying94]; rfl⟩
theorem ty95 : Ty Try.prog 95 1 8 false [.pointer none] := ⟨by kernel_rfl, by rw [Try.underlying95]; rfl⟩
theorem ty96 : Ty Try.prog 96 1 4 false [.int .u32 0] := ⟨by kernel_rfl, by rw [Try.underlying96]; rfl⟩
theorem ty97 : Ty Try.prog 97 1 24 false [.slice none 0 0] := ⟨by kernel_rfl, by rw [Try.underlying97]; rfl⟩
theorem ty98 : Ty Try.prog 98 1 8 false [.map none] := ⟨by kernel_rfl, by rw [Try.underlying98]; rfl⟩
theorem ty100 : Ty Try.prog 100 2 32 true [.slice none 0 0, .map none] := ⟨by kernel_rfl, by rw [Try.underlying100]; rfl⟩
theorem ty102 : Ty Try.prog 102 3 40 true [.int .u32 0, .slice none 0 0, .map none] := ⟨by kernel_rfl, by rw [Try.underlying102]; rfl⟩
theorem ty105 : Ty Try.prog 105 2 16 true [.int .i64 0, .int .i64 0] := ⟨by kernel_rfl, by rw [Try.underlying105]; rfl⟩
theorem ty107 : Ty Try.prog 107 5 40 true [.int .i64 0, .int .i64 0, .int .i64 0, .int .i64 0, .int .i64 0] := ⟨by kernel_rfl, by rw [Try.underlying107]; rfl⟩
theorem ty109 : Ty Try.prog 109 8 64 true [.int .i64 0, .int .i64 0, .int .i64 0, .int .i64 0, .int .i64 0, .int .i64 0, .int .i64 0, .int .i64 0] := ⟨by kernel_rfl, by rw [Try.underlying109]; rfl⟩
theorem ty115 : Ty Try.prog 115 1 24 false [.slice none 0 0] := ⟨by kernel_rfl, by rw [Try.underlying115]; rfl⟩
theorem ty117 : Ty Try.prog 117 1 24 true [.slice none 0 0] := ⟨by kernel_rfl, by rw [Try.underlying117]; rfl⟩
theorem ty118 : Ty Try.prog 118 1 24 false [.slice none 0 0] := ⟨by kernel_rfl, by rw [Try.underlying118]; rfl⟩
theorem ty119 : Ty Try.prog 119 1 24 false [.slice none 0 0] := ⟨by kernel_rfl, by rw [Try.underlying119]; rfl⟩
theorem ty121 : Ty Try.prog 121 2 16 true [.int .i64 0, .int .u32 0] := ⟨by kernel_rfl, by rw [Try.underlying121]; rfl⟩
theorem ty124 : Ty Try.prog 124 2 16 true [.int .i64 0, .int .i64 0] := ⟨by kernel_rfl, by rw [Try.underlying124]; rfl⟩
theorem ty127 : Ty Try.prog 127 2 16 true [.int .i64 0, .int .i64 0] := ⟨by kernel_rfl, by rw [Try.underlying127]; rfl⟩
theorem ty129 : Ty Try.prog 129 2 16 true [.int .i64 0, .int .i64 0] := ⟨by kernel_rfl, by rw [Try.underlying129]; rfl⟩
theorem ty130 : Ty Try.prog 130 1 8 false [.pointer none] := ⟨by kernel_rfl, by rw [Try.underlying130]; rfl⟩
theorem ty132 : Ty Try.prog 132 2 16 true [.int .i64 0, .int .i64 0] := ⟨by kernel_rfl, by rw [Try.underlying132]; rfl⟩
theorem ty134 : Ty Try.prog 134 3 24 true [.int .i64 0, .int .i64 0, .bool false] := ⟨by kernel_rfl, by rw [Try.underlying134]; rfl⟩
theorem ty144 : Ty Try.prog 144 7 56 true [.int .i64 0, .int .i64 0, .int .i64 0, .int .i64 0, .int .i64 0, .int .i64 0, .int .i64 0] := ⟨by kernel_rfl, by rw [Try.underlying144]; rfl⟩
theorem ty146 : Ty Try.prog 146 1 24 false [.slice none 0 0] := ⟨by kernel_rfl, by rw [Try.underlying146]; rfl⟩
theorem ty148 : Ty Try.prog 148 8 72 true [.pointer none, .int .i64 0, .int .i64 0, .int .i64 0, .int .i64 0, .int .u32 0, .int .u32 0, .slice none 0 0] := ⟨by kernel_rfl, by rw [Try.underlying148]; rfl⟩
theorem ty152 : Ty Try.prog 152 1 8 false [.int .u64 0] := ⟨by kernel_rfl, by rw [Try.underlying152]; rfl⟩
theorem ty156 : Ty Try.prog 156 1 8 false [.int .i64 0] := ⟨by kernel_rfl, by rw [Try.underlying156]; rfl⟩
theorem ty164 : Ty Try.prog 164 1 8 false [.int .u64 0] := ⟨by kernel_rfl, by rw [Try.underlying164]; rfl⟩
theorem ty167 : Ty Try.prog 167 1 8 false [.pointer none] := ⟨by kernel_rfl, by rw [Try.underlying167]; rfl⟩
theorem ty193 : Ty Try.prog 193 2 16 true [.int .i64 0, .int .i64 0] := ⟨by kernel_rfl, by rw [Try.underlying193]; rfl⟩
theorem ty195 : Ty Try.prog 195 8 40 true [.int .i64 0, .int .i64 0, .int .u32 0, .int .u32 0, .int .u32 0, .int .u32 0, .int .u32 0, .int .u32 0] := ⟨by kernel_rfl, by rw [Try.underlying195]; rfl⟩
theorem ty197 : Ty Try.prog 197 13 72 true [.int .i64 0, .int .i64 0, .int .i64 0, .int .i64 0, .int .u32 0, .int .u32 0, .int .u32 0, .int .u32 0, .int .u32 0, .int .u32 0, .int .i64 0, .bool false, .bool false] := ⟨by kernel_rfl, by rw [Try.underlying197]; rfl⟩
theorem ty199 : Ty Try.prog 199 3 24 true [.int .u64 0, .int .i64 0, .int .i64 0] := ⟨by kernel_rfl, by rw [Try.underlying199]; rfl⟩
theorem ty201 : Ty Try.prog 201 7 48 true [.int .i64 0, .int .i64 0, .int .u32 0, .int .i64 0, .int .i64 0, .int .u32 0, .bool false] := ⟨by kernel_rfl, by rw [Try.underlying201]; rfl⟩
theorem ty204 : Ty Try.prog 204 5 40 true [.int .i64 0, .int .i64 0, .int .u32 0, .int .i64 0, .bool false] := ⟨by kernel_rfl, by rw [Try.underlying204]; rfl⟩
theorem ty206 : Ty Try.prog 206 3 24 true [.int .i64 0, .int .i64 0, .int .i64 0] := ⟨by kernel_rfl, by rw [Try.underlying206]; rfl⟩
theorem ty210 : Ty Try.prog 210 4 16 true [.int .u32 0, .int .i32 0, .int .u32 0, .int .u32 0] := ⟨by kernel_rfl, by rw [Try.underlying210]; rfl⟩
theorem fa27_0 (a : Addr) (w : World) : (Instr.fieldAt 27 (.pointer (some a)) 0).run Try.prog w = .ok (.pointer (some (a.add 0))) w := by
  simp [Instr.fieldAt, run_underlying Try.underlying27, Instr.sureAddr, fieldPlace, ty3.sizeOf]
theorem fa27_1 (a : Addr) (w : World) : (Instr.fieldAt 27 (.pointer (some a)) 1).run Try.prog w = .ok (.pointer (some (a.add 1))) w := by
  simp [Instr.fieldAt, run_underlying Try.underlying27, Instr.sureAddr, fieldPlace, ty3.sizeOf]
theorem fa27_2 (a : Addr) (w : World) : (Instr.fieldAt 27 (.pointer (some a)) 2).run Try.prog w = .ok (.pointer (some (a.add 2))) w := by
  simp [Instr.fieldAt, run_underlying Try.underlying27, Instr.sureAddr, fieldPlace, ty3.sizeOf]
theorem fa27_3 (a : Addr) (w : World) : (Instr.fieldAt 27 (.pointer (some a)) 3).run Try.prog w = .ok (.pointer (some (a.add 3))) w := by
  simp [Instr.fieldAt, run_underlying Try.underlying27, Instr.sureAddr, fieldPlace, ty3.sizeOf]
theorem fa27_4 (a : Addr) (w : World) : (Instr.fieldAt 27 (.pointer (some a)) 4).run Try.prog w = .ok (.pointer (some (a.add 4))) w := by
  simp [Instr.fieldAt, run_underlying Try.underlying27, Instr.sureAddr, fieldPlace, ty4.sizeOf]
theorem fa69_0 (a : Addr) (w : World) : (Instr.fieldAt 69 (.pointer (some a)) 0).run Try.prog w = .ok (.pointer (some (a.add 0))) w := by
  simp [Instr.fieldAt, run_underlying Try.underlying69, Instr.sureAddr, fieldPlace, ty67.sizeOf]
theorem fa75_0 (a : Addr) (w : World) : (Instr.fieldAt 75 (.pointer (some a)) 0).run Try.prog w = .ok (.pointer (some (a.add 0))) w := by
  simp [Instr.fieldAt, run_underlying Try.underlying75, Instr.sureAddr, fieldPlace, ty73.sizeOf]
theorem fa78_0 (a : Addr) (w : World) : (Instr.fieldAt 78 (.pointer (some a)) 0).run Try.prog w = .ok (.pointer (some (a.add 0))) w := by
  simp [Instr.fieldAt, run_underlying Try.underlying78, Instr.sureAddr, fieldPlace, ty76.sizeOf]
theorem fa89_0 (a : Addr) (w : World) : (Instr.fieldAt 89 (.pointer (some a)) 0).run Try.prog w = .ok (.pointer (some (a.add 0))) w := by
  simp [Instr.fieldAt, run_underlying Try.underlying89, Instr.sureAddr, fieldPlace, ty27.sizeOf]
theorem fa89_1 (a : Addr) (w : World) : (Instr.fieldAt 89 (.pointer (some a)) 1).run Try.prog w = .ok (.pointer (some (a.add 5))) w := by
  simp [Instr.fieldAt, run_underlying Try.underlying89, Instr.sureAddr, fieldPlace, ty40.sizeOf]
theorem fa89_2 (a : Addr) (w : World) : (Instr.fieldAt 89 (.pointer (some a)) 2).run Try.prog w = .ok (.pointer (some (a.add 6))) w := by
  simp [Instr.fieldAt, run_underlying Try.underlying89, Instr.sureAddr, fieldPlace, ty69.sizeOf]
theorem fa89_3 (a : Addr) (w : World) : (Instr.fieldAt 89 (.pointer (some a)) 3).run Try.prog w = .ok (.pointer (some (a.add 7))) w := by
  simp [Instr.fieldAt, run_underlying Try.underlying89, Instr.sureAddr, fieldPlace, ty72.sizeOf]
theorem fa89_4 (a : Addr) (w : World) : (Instr.fieldAt 89 (.pointer (some a)) 4).run Try.prog w = .ok (.pointer (some (a.add 8))) w := by
  simp [Instr.fieldAt, run_underlying Try.underlying89, Instr.sureAddr, fieldPlace, ty75.sizeOf]
theorem fa89_5 (a : Addr) (w : World) : (Instr.fieldAt 89 (.pointer (some a)) 5).run Try.prog w = .ok (.pointer (some (a.add 9))) w := by
  simp [Instr.fieldAt, run_underlying Try.underlying89, Instr.sureAddr, fieldPlace, ty78.sizeOf]
theorem fa89_6 (a : Addr) (w : World) : (Instr.fieldAt 89 (.pointer (some a)) 6).run Try.prog w = .ok (.pointer (some (a.add 10))) w := by
  simp [Instr.fieldAt, run_underlying Try.underlying89, Instr.sureAddr, fieldPlace, ty81.sizeOf]
theorem fa89_7 (a : Addr) (w : World) : (Instr.fieldAt 89 (.pointer (some a)) 7).run Try.prog w = .ok (.pointer (some (a.add 11))) w := by
  simp [Instr.fieldAt, run_underlying Try.underlying89, Instr.sureAddr, fieldPlace, ty84.sizeOf]
theorem fa89_8 (a : Addr) (w : World) : (Instr.fieldAt 89 (.pointer (some a)) 8).run Try.prog w = .ok (.pointer (some (a.add 12))) w := by
  simp [Instr.fieldAt, run_underlying Try.underlying89, Instr.sureAddr, fieldPlace, ty87.sizeOf]
theorem fa89_9 (a : Addr) (w : World) : (Instr.fieldAt 89 (.pointer (some a)) 9).run Try.prog w = .ok (.pointer (some (a.add 13))) w := by
  simp [Instr.fieldAt, run_underlying Try.underlying89, Instr.sureAddr, fieldPlace, ty59.sizeOf]
theorem fa89_10 (a : Addr) (w : World) : (Instr.fieldAt 89 (.pointer (some a)) 10).run Try.prog w = .ok (.pointer (some (a.add 14))) w := by
  simp [Instr.fieldAt, run_underlying Try.underlying89, Instr.sureAddr, fieldPlace, ty60.sizeOf]
theorem fa89_11 (a : Addr) (w : World) : (Instr.fieldAt 89 (.pointer (some a)) 11).run Try.prog w = .ok (.pointer (some (a.add 15))) w := by
  simp [Instr.fieldAt, run_underlying Try.underlying89, Instr.sureAddr, fieldPlace, ty61.sizeOf]
theorem fa89_12 (a : Addr) (w : World) : (Instr.fieldAt 89 (.pointer (some a)) 12).run Try.prog w = .ok (.pointer (some (a.add 16))) w := by
  simp [Instr.fieldAt, run_underlying Try.underlying89, Instr.sureAddr, fieldPlace, ty62.sizeOf]
theorem fa89_13 (a : Addr) (w : World) : (Instr.fieldAt 89 (.pointer (some a)) 13).run Try.prog w = .ok (.pointer (some (a.add 17))) w := by
  simp [Instr.fieldAt, run_underlying Try.underlying89, Instr.sureAddr, fieldPlace, ty63.sizeOf]
theorem fa89_14 (a : Addr) (w : World) : (Instr.fieldAt 89 (.pointer (some a)) 14).run Try.prog w = .ok (.pointer (some (a.add 18))) w := by
  simp [Instr.fieldAt, run_underlying Try.underlying89, Instr.sureAddr, fieldPlace, ty64.sizeOf]
theorem fa89_15 (a : Addr) (w : World) : (Instr.fieldAt 89 (.pointer (some a)) 15).run Try.prog w = .ok (.pointer (some (a.add 19))) w := by
  simp [Instr.fieldAt, run_underlying Try.underlying89, Instr.sureAddr, fieldPlace, ty65.sizeOf]
theorem fa89_16 (a : Addr) (w : World) : (Instr.fieldAt 89 (.pointer (some a)) 16).run Try.prog w = .ok (.pointer (some (a.add 20))) w := by
  simp [Instr.fieldAt, run_underlying Try.underlying89, Instr.sureAddr, fieldPlace, ty66.sizeOf]
theorem fa89_17 (a : Addr) (w : World) : (Instr.fieldAt 89 (.pointer (some a)) 17).run Try.prog w = .ok (.pointer (some (a.add 21))) w := by
  simp [Instr.fieldAt, run_underlying Try.underlying89, Instr.sureAddr, fieldPlace, ty65.sizeOf]
theorem fa89_18 (a : Addr) (w : World) : (Instr.fieldAt 89 (.pointer (some a)) 18).run Try.prog w = .ok (.pointer (some (a.add 22))) w := by
  simp [Instr.fieldAt, run_underlying Try.underlying89, Instr.sureAddr, fieldPlace, ty35.sizeOf]
theorem fa105_0 (a : Addr) (w : World) : (Instr.fieldAt 105 (.pointer (some a)) 0).run Try.prog w = .ok (.pointer (some (a.add 0))) w := by
  simp [Instr.fieldAt, run_underlying Try.underlying105, Instr.sureAddr, fieldPlace, ty3.sizeOf]
theorem fa105_1 (a : Addr) (w : World) : (Instr.fieldAt 105 (.pointer (some a)) 1).run Try.prog w = .ok (.pointer (some (a.add 1))) w := by
  simp [Instr.fieldAt, run_underlying Try.underlying105, Instr.sureAddr, fieldPlace, ty3.sizeOf]
theorem fa107_0 (a : Addr) (w : World) : (Instr.fieldAt 107 (.pointer (some a)) 0).run Try.prog w = .ok (.pointer (some (a.add 0))) w := by
  simp [Instr.fieldAt, run_underlying Try.underlying107, Instr.sureAddr, fieldPlace, ty3.sizeOf]
theorem fa107_1 (a : Addr) (w : World) : (Instr.fieldAt 107 (.pointer (some a)) 1).run Try.prog w = .ok (.pointer (some (a.add 1))) w := by
  simp [Instr.fieldAt, run_underlying Try.underlying107, Instr.sureAddr, fieldPlace, ty3.sizeOf]
theorem fa107_2 (a : Addr) (w : World) : (Instr.fieldAt 107 (.pointer (some a)) 2).run Try.prog w = .ok (.pointer (some (a.add 2))) w := by
  simp [Instr.fieldAt, run_underlying Try.underlying107, Instr.sureAddr, fieldPlace, ty3.sizeOf]
theorem fa107_3 (a : Addr) (w : World) : (Instr.fieldAt 107 (.pointer (some a)) 3).run Try.prog w = .ok (.pointer (some (a.add 3))) w := by
  simp [Instr.fieldAt, run_underlying Try.underlying107, Instr.sureAddr, fieldPlace, ty3.sizeOf]
theorem fa107_4 (a : Addr) (w : World) : (Instr.fieldAt 107 (.pointer (some a)) 4).run Try.prog w = .ok (.pointer (some (a.add 4))) w := by
  simp [Instr.fieldAt, run_underlying Try.underlying107, Instr.sureAddr, fieldPlace, ty3.sizeOf]
theorem fa109_0 (a : Addr) (w : World) : (Instr.fieldAt 109 (.pointer (some a)) 0).run Try.prog w = .ok (.pointer (some (a.add 0))) w := by
  simp [Instr.fieldAt, run_underlying Try.underlying109, Instr.sureAddr, fieldPlace, ty3.sizeOf]
theorem fa109_1 (a : Addr) (w : World) : (Instr.fieldAt 109 (.pointer (some a)) 1).run Try.prog w = .ok (.pointer (some (a.add 1))) w := by
  simp [Instr.fieldAt, run_underlying Try.underlying109, Instr.sureAddr, fieldPlace, ty3.sizeOf]
theorem fa109_2 (a : Addr) (w : World) : (Instr.fieldAt 109 (.pointer (some a)) 2).run Try.prog w = .ok (.pointer (some (a.add 2))) w := by
  simp [Instr.fieldAt, run_underlying Try.underlying109, Instr.sureAddr, fieldPlace, ty3.sizeOf]
theorem fa117_0 (a : Addr) (w : World) : (Instr.fieldAt 117 (.pointer (some a)) 0).run Try.prog w = .ok (.pointer (some (a.add 0))) w := by
  simp [Instr.fieldAt, run_underlying Try.underlying117, Instr.sureAddr, fieldPlace, ty115.sizeOf]
theorem fa124_0 (a : Addr) (w : World) : (Instr.fieldAt 124 (.pointer (some a)) 0).run Try.prog w = .ok (.pointer (some (a.add 0))) w := by
  simp [Instr.fieldAt, run_underlying Try.underlying124, Instr.sureAddr, fieldPlace, ty3.sizeOf]
theorem fa124_1 (a : Addr) (w : World) : (Instr.fieldAt 124 (.pointer (some a)) 1).run Try.prog w = .ok (.pointer (some (a.add 1))) w := by
  simp [Instr.fieldAt, run_underlying Try.underlying124, Instr.sureAddr, fieldPlace, ty3.sizeOf]
theorem fa127_0 (a : Addr) (w : World) : (Instr.fieldAt 127 (.pointer (some a)) 0).run Try.prog w = .ok (.pointer (some (a.add 0))) w := by
  simp [Instr.fieldAt, run_underlying Try.underlying127, Instr.sureAddr, fieldPlace, ty3.sizeOf]
theorem fa127_1 (a : Addr) (w : World) : (Instr.fieldAt 127 (.pointer (some a)) 1).run Try.prog w = .ok (.pointer (some (a.add 1))) w := by
  simp [Instr.fieldAt, run_underlying Try.underlying127, Instr.sureAddr, fieldPlace, ty3.sizeOf]
theorem fa129_0 (a : Addr) (w : World) : (Instr.fieldAt 129 (.pointer (some a)) 0).run Try.prog w = .ok (.pointer (some (a.add 0))) w := by
  simp [Instr.fieldAt, run_underlying Try.underlying129, Instr.sureAddr, fieldPlace, ty3.sizeOf]
theorem fa129_1 (a : Addr) (w : World) : (Instr.fieldAt 129 (.pointer (some a)) 1).run Try.prog w = .ok (.pointer (some (a.add 1))) w := by
  simp [Instr.fieldAt, run_underlying Try.underlying129, Instr.sureAddr, fieldPlace, ty3.sizeOf]
theorem bld27 {F : Env} {n : Nat} {dst : Option Tmp} {T : TypeId} {p : String} {e : Array Edge} {g : Option (Nat × Bool)} {parts : Array (Nat × Operand)} {ps : List (Nat × Value)} {cs : List Value} (hps : Parts F parts.toList ps) (h : Fil [(0, 1), (1, 1), (2, 1), (3, 1), (4, 1)] ps [.int .i64 0, .int .i64 0, .int .i64 0, .int .i64 0, .bool false] cs) : Pur Try.prog ⟨dst, .build 27 parts, T, p, e, g⟩ F n (.agg cs.toArray) :=
  p_build ty27 Try.underlying27 (by intro w; simp [ty3.sizeOf, ty4.sizeOf]) hps h
theorem bld89 {F : Env} {n : Nat} {dst : Option Tmp} {T : TypeId} {p : String} {e : Array Edge} {g : Option (Nat × Bool)} {parts : Array (Nat × Operand)} {ps : List (Nat × Value)} {cs : List Value} (hps : Parts F parts.toList ps) (h : Fil [(0, 5), (5, 1), (6, 1), (7, 1), (8, 1), (9, 1), (10, 1), (11, 1), (12, 1), (13, 1), (14, 1), (15, 1), (16, 1), (17, 1), (18, 1), (19, 1), (20, 1), (21, 1), (22, 1)] ps [.int .i64 0, .int .i64 0, .int .i64 0, .int .i64 0, .bool false, .pointer none, .map none, .map none, .map none, .slice none 0 0, .map none, .slice none 0 0, .slice none 0 0, .map none, .map none, .map none, .map none, .map none, .map none, .map none, .map none, .map none, .int .u64 0] cs) : Pur Try.prog ⟨dst, .build 89 parts, T, p, e, g⟩ F n (.agg cs.toArray) :=
  p_build ty89 Try.underlying89 (by intro w; simp [ty27.sizeOf, ty35.sizeOf, ty40.sizeOf, ty59.sizeOf, ty60.sizeOf, ty61.sizeOf, ty62.sizeOf, ty63.sizeOf, ty64.sizeOf, ty65.sizeOf, ty66.sizeOf, ty69.sizeOf, ty72.sizeOf, ty75.sizeOf, ty78.sizeOf, ty81.sizeOf, ty84.sizeOf, ty87.sizeOf]) hps h
theorem bld94 {F : Env} {n : Nat} {dst : Option Tmp} {T : TypeId} {p : String} {e : Array Edge} {g : Option (Nat × Bool)} {parts : Array (Nat × Operand)} {ps : List (Nat × Value)} {cs : List Value} (hps : Parts F parts.toList ps) (h : Fil [(0, 1), (1, 1)] ps [.slice none 0 0, .slice none 0 0] cs) : Pur Try.prog ⟨dst, .build 94 parts, T, p, e, g⟩ F n (.agg cs.toArray) :=
  p_build ty94 Try.underlying94 (by intro w; simp [ty91.sizeOf, ty92.sizeOf]) hps h
theorem bld102 {F : Env} {n : Nat} {dst : Option Tmp} {T : TypeId} {p : String} {e : Array Edge} {g : Option (Nat × Bool)} {parts : Array (Nat × Operand)} {ps : List (Nat × Value)} {cs : List Value} (hps : Parts F parts.toList ps) (h : Fil [(0, 1), (1, 2)] ps [.int .u32 0, .slice none 0 0, .map none] cs) : Pur Try.prog ⟨dst, .build 102 parts, T, p, e, g⟩ F n (.agg cs.toArray) :=
  p_build ty102 Try.underlying102 (by intro w; simp [ty100.sizeOf, ty96.sizeOf]) hps h
theorem bld105 {F : Env} {n : Nat} {dst : Option Tmp} {T : TypeId} {p : String} {e : Array Edge} {g : Option (Nat × Bool)} {parts : Array (Nat × Operand)} {ps : List (Nat × Value)} {cs : List Value} (hps : Parts F parts.toList ps) (h : Fil [(0, 1), (1, 1)] ps [.int .i64 0, .int .i64 0] cs) : Pur Try.prog ⟨dst, .build 105 parts, T, p, e, g⟩ F n (.agg cs.toArray) :=
  p_build ty105 Try.underlying105 (by intro w; simp [ty3.sizeOf]) hps h
theorem bld107 {F : Env} {n : Nat} {dst : Option Tmp} {T : TypeId} {p : String} {e : Array Edge} {g : Option (Nat × Bool)} {parts : Array (Nat × Operand)} {ps : List (Nat × Value)} {cs : List Value} (hps : Parts F parts.toList ps) (h : Fil [(0, 1), (1, 1), (2, 1), (3, 1), (4, 1)] ps [.int .i64 0, .int .i64 0, .int .i64 0, .int .i64 0, .int .i64 0] cs) : Pur Try.prog ⟨dst, .build 107 parts, T, p, e, g⟩ F n (.agg cs.toArray) :=
  p_build ty107 Try.underlying107 (by intro w; simp [ty3.sizeOf]) hps h
theorem bld109 {F : Env} {n : Nat} {dst : Option Tmp} {T : TypeId} {p : String} {e : Array Edge} {g : Option (Nat × Bool)} {parts : Array (Nat × Operand)} {ps : List (Nat × Value)} {cs : List Value} (hps : Parts F parts.toList ps) (h : Fil [(0, 1), (1, 1), (2, 1), (3, 5)] ps [.int .i64 0, .int .i64 0, .int .i64 0, .int .i64 0, .int .i64 0, .int .i64 0, .int .i64 0, .int .i64 0] cs) : Pur Try.prog ⟨dst, .build 109 parts, T, p, e, g⟩ F n (.agg cs.toArray) :=
  p_build ty109 Try.underlying109 (by intro w; simp [ty107.sizeOf, ty3.sizeOf]) hps h
theorem bld117 {F : Env} {n : Nat} {dst : Option Tmp} {T : TypeId} {p : String} {e : Array Edge} {g : Option (Nat × Bool)} {parts : Array (Nat × Operand)} {ps : List (Nat × Value)} {cs : List Value} (hps : Parts F parts.toList ps) (h : Fil [(0, 1)] ps [.slice none 0 0] cs) : Pur Try.prog ⟨dst, .build 117 parts, T, p, e, g⟩ F n (.agg cs.toArray) :=
  p_build ty117 Try.underlying117 (by intro w; simp [ty115.sizeOf]) hps h
theorem bld121 {F : Env} {n : Nat} {dst : Option Tmp} {T : TypeId} {p : String} {e : Array Edge} {g : Option (Nat × Bool)} {parts : Array (Nat × Operand)} {ps : List (Nat × Value)} {cs : List Value} (hps : Parts F parts.toList ps) (h : Fil [(0, 1), (1, 1)] ps [.int .i64 0, .int .u32 0] cs) : Pur Try.prog ⟨dst, .build 121 parts, T, p, e, g⟩ F n (.agg cs.toArray) :=
  p_build ty121 Try.underlying121 (by intro w; simp [ty3.sizeOf, ty96.sizeOf]) hps h
theorem bld124 {F : Env} {n : Nat} {dst : Option Tmp} {T : TypeId} {p : String} {e : Array Edge} {g : Option (Nat × Bool)} {parts : Array (Nat × Operand)} {ps : List (Nat × Value)} {cs : List Value} (hps : Parts F parts.toList ps) (h : Fil [(0, 1), (1, 1)] ps [.int .i64 0, .int .i64 0] cs) : Pur Try.prog ⟨dst, .build 124 parts, T, p, e, g⟩ F n (.agg cs.toArray) :=
  p_build ty124 Try.underlying124 (by intro w; simp [ty3.sizeOf]) hps h
theorem bld127 {F : Env} {n : Nat} {dst : Option Tmp} {T : TypeId} {p : String} {e : Array Edge} {g : Option (Nat × Bool)} {parts : Array (Nat × Operand)} {ps : List (Nat × Value)} {cs : List Value} (hps : Parts F parts.toList ps) (h : Fil [(0, 1), (1, 1)] ps [.int .i64 0, .int .i64 0] cs) : Pur Try.prog ⟨dst, .build 127 parts, T, p, e, g⟩ F n (.agg cs.toArray) :=
  p_build ty127 Try.underlying127 (by intro w; simp [ty3.sizeOf]) hps h
theorem bld129 {F : Env} {n : Nat} {dst : Option Tmp} {T : TypeId} {p : String} {e : Array Edge} {g : Option (Nat × Bool)} {parts : Array (Nat × Operand)} {ps : List (Nat × Value)} {cs : List Value} (hps : Parts F parts.toList ps) (h : Fil [(0, 1), (1, 1)] ps [.int .i64 0, .int .i64 0] cs) : Pur Try.prog ⟨dst, .build 129 parts, T, p, e, g⟩ F n (.agg cs.toArray) :=
  p_build ty129 Try.underlying129 (by intro w; simp [ty3.sizeOf]) hps h
theorem bld134 {F : Env} {n : Nat} {dst : Option Tmp} {T : TypeId} {p : String} {e : Array Edge} {g : Option (Nat × Bool)} {parts : Array (Nat × Operand)} {ps : List (Nat × Value)} {cs : List Value} (hps : Parts F parts.toList ps) (h : Fil [(0, 2), (2, 1)] ps [.int .i64 0, .int .i64 0, .bool false] cs) : Pur Try.prog ⟨dst, .build 134 parts, T, p, e, g⟩ F n (.agg cs.toArray) :=
  p_build ty134 Try.underlying134 (by intro w; simp [ty132.sizeOf, ty4.sizeOf]) hps h
theorem bld144 {F : Env} {n : Nat} {dst : Option Tmp} {T : TypeId} {p : String} {e : Array Edge} {g : Option (Nat × Bool)} {parts : Array (Nat × Operand)} {ps : List (Nat × Value)} {cs : List Value} (hps : Parts F parts.toList ps) (h : Fil [(0, 5), (5, 2)] ps [.int .i64 0, .int .i64 0, .int .i64 0, .int .i64 0, .int .i64 0, .int .i64 0, .int .i64 0] cs) : Pur Try.prog ⟨dst, .build 144 parts, T, p, e, g⟩ F n (.agg cs.toArray) :=
  p_build ty144 Try.underlying144 (by intro w; simp [ty107.sizeOf, ty124.sizeOf]) hps h
theorem bld148 {F : Env} {n : Nat} {dst : Option Tmp} {T : TypeId} {p : String} {e : Array Edge} {g : Option (Nat × Bool)} {parts : Array (Nat × Operand)} {ps : List (Nat × Value)} {cs : List Value} (hps : Parts F parts.toList ps) (h : Fil [(0, 1), (1, 1), (2, 1), (3, 1), (4, 1), (5, 1), (6, 1), (7, 1)] ps [.pointer none, .int .i64 0, .int .i64 0, .int .i64 0, .int .i64 0, .int .u32 0, .int .u32 0, .slice none 0 0] cs) : Pur Try.prog ⟨dst, .build 148 parts, T, p, e, g⟩ F n (.agg cs.toArray) :=
  p_build ty148 Try.underlying148 (by intro w; simp [ty146.sizeOf, ty3.sizeOf, ty40.sizeOf, ty96.sizeOf]) hps h
theorem shp124 : Try.prog.stoodInHeld 124 = false := by kernel_rfl
theorem flds124 : Try.prog.underlying 124 = some (.struct (Try.prog.fieldsOf 124)) := by kernel_rfl
theorem eqin124 (a0 b0 : Int) (a1 b1 : Int) (D : Nat) (w : World) : (Op.equalIn (D + 2) 124 (.agg #[.int .i64 a0, .int .i64 a1]) (.agg #[.int .i64 b0, .int .i64 b1])).run Try.prog w = .ok (decide (a0 = b0 ∧ a1 = b1)) w := by
  have h0 := run_equalIn_int (P := Try.prog) w (D + 0) 3 .i64 .i64 a0 b0 Try.underlying3
  have h1 := run_equalIn_int (P := Try.prog) w (D + 0) 3 .i64 .i64 a1 b1 Try.underlying3
  simp only [Nat.add_zero] at h0 h1
  rw [run_equalIn_struct w (D + 1) 124 _ _ flds124 shp124]
  simp only [Program.fieldsOf, Try.underlying124]
  simp [Op.eqFields, part, ty3.isAgg, ty3.sizeOf, h0, h1]
  (repeat' split) <;> simp_all
theorem eg124 (op : BinOp) (x y : Operand) (xs ys : Array Value) (w : World) : (eqGuard op 124 x y (.agg xs) (.agg ys)).run Try.prog w = .ok () w := run_eqGuard_agg w op 124 x y xs ys (by kernel_rfl)
theorem eqv124 (a0 b0 : Int) (a1 b1 : Int) (w : World) : (binOp .eql 124 (.agg #[.int .i64 a0, .int .i64 a1]) (.agg #[.int .i64 b0, .int .i64 b1])).run Try.prog w = .ok (.bool (decide (a0 = b0 ∧ a1 = b1))) w := by
  have h := eqin124 a0 b0 a1 b1 9998 w
  rw [(by decide : 9998 + 2 = 10000)] at h
  rw [run_eql_struct w 124, h]; rfl
theorem nev124 (a0 b0 : Int) (a1 b1 : Int) (w : World) : (binOp .neq 124 (.agg #[.int .i64 a0, .int .i64 a1]) (.agg #[.int .i64 b0, .int .i64 b1])).run Try.prog w = .ok (.bool (!decide (a0 = b0 ∧ a1 = b1))) w := by
  have h := eqin124 a0 b0 a1 b1 9998 w
  rw [(by decide : 9998 + 2 = 10000)] at h
  rw [run_neq_struct w 124, h]; rfl
theorem zv_of {P : Program} {t : TypeId} {z : Value} (h : (P.info? t).bind (·.zero) = some z) : (P.info? t).bind (·.zero) = some z := h
theorem zv3 : (Try.prog.info? 3).bind (·.zero) = some (.int .i64 0) := by kernel_rfl
theorem zv4 : (Try.prog.info? 4).bind (·.zero) = some (.bool false) := by kernel_rfl
theorem zv55 : (Try.prog.info? 55).bind (·.zero) = some (.pointer none) := by kernel_rfl
theorem zv90 : (Try.prog.info? 90).bind (·.zero) = some (.pointer none) := by kernel_rfl
theorem zv95 : (Try.prog.info? 95).bind (·.zero) = some (.pointer none) := by kernel_rfl
theorem zv109 : (Try.prog.info? 109).bind (·.zero) = some (.agg #[.int .i64 0, .int .i64 0, .int .i64 0, .int .i64 0, .int .i64 0, .int .i64 0, .int .i64 0, .int .i64 0]) := by kernel_rfl
theorem zv121 : (Try.prog.info? 121).bind (·.zero) = some (.agg #[.int .i64 0, .int .u32 0]) := by kernel_rfl
theorem zv129 : (Try.prog.info? 129).bind (·.zero) = some (.agg #[.int .i64 0, .int .i64 0]) := by kernel_rfl
theorem zv130 : (Try.prog.info? 130).bind (·.zero) = some (.pointer none) := by kernel_rfl
theorem zv144 : (Try.prog.info? 144).bind (·.zero) = some (.agg #[.int .i64 0, .int .i64 0, .int .i64 0, .int .i64 0, .int .i64 0, .int .i64 0, .int .i64 0]) := by kernel_rfl
theorem zv197 : (Try.prog.info? 197).bind (·.zero) = some (.agg #[.int .i64 0, .int .i64 0, .int .i64 0, .int .i64 0, .int .u32 0, .int .u32 0, .int .u32 0, .int .u32 0, .int .u32 0, .int .u32 0, .int .i64 0, .bool false, .bool false]) := by kernel_rfl
theorem ky3 : Ky Try.prog 3 (fun a : Int => Value.int .i64 a) := ky_int Try.underlying3
theorem ky124 : Ky Try.prog 124 (fun a : Int × Int => Value.agg #[.int .i64 a.1, .int .i64 a.2]) := by
  refine ky_struct Try.underlying124 (fun a => ?_) (fun a em w => ?_) (fun a b w => ?_)
  · have : ∀ n, Instr.sameBits (n + 2) (.agg #[.int .i64 a.1, .int .i64 a.2]) (.agg #[.int .i64 a.1, .int .i64 a.2]) = true := fun n => by simp [Instr.sameBits]
    have h := this 9998
    rw [(by decide : 9998 + 2 = 10000)] at h
    exact h
  · have : ∀ n, (Instr.checkKey em (n + 2) 124 (.agg #[.int .i64 a.1, .int .i64 a.2])).run Try.prog w = .ok () w := fun n => by
      simp [Instr.checkKey, run_underlying Try.underlying124, part, run_underlying Try.underlying3, ty3.isAgg]
    have h := this 9998
    rw [(by decide : 9998 + 2 = 10000)] at h
    exact h
  · have h := eqin124 a.1 b.1 a.2 b.2 9998 w
    rw [(by decide : 9998 + 2 = 10000)] at h
    have e : decide (a.1 = b.1 ∧ a.2 = b.2) = decide (a = b) := by rw [decide_eq_decide]; exact Prod.ext_iff.symm
    rw [e] at h
    exact h
theorem shp127 : Try.prog.stoodInHeld 127 = false := by kernel_rfl
theorem flds127 : Try.prog.underlying 127 = some (.struct (Try.prog.fieldsOf 127)) := by kernel_rfl
theorem eqin127 (a0 b0 : Int) (a1 b1 : Int) (D : Nat) (w : World) : (Op.equalIn (D + 2) 127 (.agg #[.int .i64 a0, .int .i64 a1]) (.agg #[.int .i64 b0, .int .i64 b1])).run Try.prog w = .ok (decide (a0 = b0 ∧ a1 = b1)) w := by
  have h0 := run_equalIn_int (P := Try.prog) w (D + 0) 3 .i64 .i64 a0 b0 Try.underlying3
  have h1 := run_equalIn_int (P := Try.prog) w (D + 0) 3 .i64 .i64 a1 b1 Try.underlying3
  simp only [Nat.add_zero] at h0 h1
  rw [run_equalIn_struct w (D + 1) 127 _ _ flds127 shp127]
  simp only [Program.fieldsOf, Try.underlying127]
  simp [Op.eqFields, part, ty3.isAgg, ty3.sizeOf, h0, h1]
  (repeat' split) <;> simp_all
theorem ky127 : Ky Try.prog 127 (fun a : Int × Int => Value.agg #[.int .i64 a.1, .int .i64 a.2]) := by
  refine ky_struct Try.underlying127 (fun a => ?_) (fun a em w => ?_) (fun a b w => ?_)
  · have : ∀ n, Instr.sameBits (n + 2) (.agg #[.int .i64 a.1, .int .i64 a.2]) (.agg #[.int .i64 a.1, .int .i64 a.2]) = true := fun n => by simp [Instr.sameBits]
    have h := this 9998
    rw [(by decide : 9998 + 2 = 10000)] at h
    exact h
  · have : ∀ n, (Instr.checkKey em (n + 2) 127 (.agg #[.int .i64 a.1, .int .i64 a.2])).run Try.prog w = .ok () w := fun n => by
      simp [Instr.checkKey, run_underlying Try.underlying127, part, run_underlying Try.underlying3, ty3.isAgg]
    have h := this 9998
    rw [(by decide : 9998 + 2 = 10000)] at h
    exact h
  · have h := eqin127 a.1 b.1 a.2 b.2 9998 w
    rw [(by decide : 9998 + 2 = 10000)] at h
    have e : decide (a.1 = b.1 ∧ a.2 = b.2) = decide (a = b) := by rw [decide_eq_decide]; exact Prod.ext_iff.symm
    rw [e] at h
    exact h
theorem shp132 : Try.prog.stoodInHeld 132 = false := by kernel_rfl
theorem flds132 : Try.prog.underlying 132 = some (.struct (Try.prog.fieldsOf 132)) := by kernel_rfl
theorem eqin132 (a0 b0 : Int) (a1 b1 : Int) (D : Nat) (w : World) : (Op.equalIn (D + 2) 132 (.agg #[.int .i64 a0, .int .i64 a1]) (.agg #[.int .i64 b0, .int .i64 b1])).run Try.prog w = .ok (decide (a0 = b0 ∧ a1 = b1)) w := by
  have h0 := run_equalIn_int (P := Try.prog) w (D + 0) 3 .i64 .i64 a0 b0 Try.underlying3
  have h1 := run_equalIn_int (P := Try.prog) w (D + 0) 3 .i64 .i64 a1 b1 Try.underlying3
  simp only [Nat.add_zero] at h0 h1
  rw [run_equalIn_struct w (D + 1) 132 _ _ flds132 shp132]
  simp only [Program.fieldsOf, Try.underlying132]
  simp [Op.eqFields, part, ty3.isAgg, ty3.sizeOf, h0, h1]
  (repeat' split) <;> simp_all
theorem ky132 : Ky Try.prog 132 (fun a : Int × Int => Value.agg #[.int .i64 a.1, .int .i64 a.2]) := by
  refine ky_struct Try.underlying132 (fun a => ?_) (fun a em w => ?_) (fun a b w => ?_)
  · have : ∀ n, Instr.sameBits (n + 2) (.agg #[.int .i64 a.1, .int .i64 a.2]) (.agg #[.int .i64 a.1, .int .i64 a.2]) = true := fun n => by simp [Instr.sameBits]
    have h := this 9998
    rw [(by decide : 9998 + 2 = 10000)] at h
    exact h
  · have : ∀ n, (Instr.checkKey em (n + 2) 132 (.agg #[.int .i64 a.1, .int .i64 a.2])).run Try.prog w = .ok () w := fun n => by
      simp [Instr.checkKey, run_underlying Try.underlying132, part, run_underlying Try.underlying3, ty3.isAgg]
    have h := this 9998
    rw [(by decide : 9998 + 2 = 10000)] at h
    exact h
  · have h := eqin132 a.1 b.1 a.2 b.2 9998 w
    rw [(by decide : 9998 + 2 = 10000)] at h
    have e : decide (a.1 = b.1 ∧ a.2 = b.2) = decide (a = b) := by rw [decide_eq_decide]; exact Prod.ext_iff.symm
    rw [e] at h
    exact h
theorem shp193 : Try.prog.stoodInHeld 193 = false := by kernel_rfl
theorem flds193 : Try.prog.underlying 193 = some (.struct (Try.prog.fieldsOf 193)) := by kernel_rfl
theorem eqin193 (a0 b0 : Int) (a1 b1 : Int) (D : Nat) (w : World) : (Op.equalIn (D + 2) 193 (.agg #[.int .i64 a0, .int .i64 a1]) (.agg #[.int .i64 b0, .int .i64 b1])).run Try.prog w = .ok (decide (a0 = b0 ∧ a1 = b1)) w := by
  have h0 := run_equalIn_int (P := Try.prog) w (D + 0) 3 .i64 .i64 a0 b0 Try.underlying3
  have h1 := run_equalIn_int (P := Try.prog) w (D + 0) 3 .i64 .i64 a1 b1 Try.underlying3
  simp only [Nat.add_zero] at h0 h1
  rw [run_equalIn_struct w (D + 1) 193 _ _ flds193 shp193]
  simp only [Program.fieldsOf, Try.underlying193]
  simp [Op.eqFields, part, ty3.isAgg, ty3.sizeOf, h0, h1]
  (repeat' split) <;> simp_all
theorem ky193 : Ky Try.prog 193 (fun a : Int × Int => Value.agg #[.int .i64 a.1, .int .i64 a.2]) := by
  refine ky_struct Try.underlying193 (fun a => ?_) (fun a em w => ?_) (fun a b w => ?_)
  · have : ∀ n, Instr.sameBits (n + 2) (.agg #[.int .i64 a.1, .int .i64 a.2]) (.agg #[.int .i64 a.1, .int .i64 a.2]) = true := fun n => by simp [Instr.sameBits]
    have h := this 9998
    rw [(by decide : 9998 + 2 = 10000)] at h
    exact h
  · have : ∀ n, (Instr.checkKey em (n + 2) 193 (.agg #[.int .i64 a.1, .int .i64 a.2])).run Try.prog w = .ok () w := fun n => by
      simp [Instr.checkKey, run_underlying Try.underlying193, part, run_underlying Try.underlying3, ty3.isAgg]
    have h := this 9998
    rw [(by decide : 9998 + 2 = 10000)] at h
    exact h
  · have h := eqin193 a.1 b.1 a.2 b.2 9998 w
    rw [(by decide : 9998 + 2 = 10000)] at h
    have e : decide (a.1 = b.1 ∧ a.2 = b.2) = decide (a = b) := by rw [decide_eq_decide]; exact Prod.ext_iff.symm
    rw [e] at h
    exact h
theorem nm3 : (Try.f3.name == "runtime.NumGoroutine") = false := by kernel_rfl
theorem bd3 : Try.f3.body.isNone = false := by kernel_rfl
theorem nm4 : (Try.f4.name == "runtime.NumGoroutine") = false := by kernel_rfl
theorem bd4 : Try.f4.body.isNone = false := by kernel_rfl
theorem nm5 : (Try.f5.name == "runtime.NumGoroutine") = false := by kernel_rfl
theorem bd5 : Try.f5.body.isNone = false := by kernel_rfl
theorem nm6 : (Try.f6.name == "runtime.NumGoroutine") = false := by kernel_rfl
theorem bd6 : Try.f6.body.isNone = false := by kernel_rfl
theorem nm7 : (Try.f7.name == "runtime.NumGoroutine") = false := by kernel_rfl
theorem bd7 : Try.f7.body.isNone = false := by kernel_rfl
theorem nm8 : (Try.f8.name == "runtime.NumGoroutine") = false := by kernel_rfl
theorem bd8 : Try.f8.body.isNone = false := by kernel_rfl
theorem nm9 : (Try.f9.name == "runtime.NumGoroutine") = false := by kernel_rfl
theorem bd9 : Try.f9.body.isNone = false := by kernel_rfl
theorem nm10 : (Try.f10.name == "runtime.NumGoroutine") = false := by kernel_rfl
theorem bd10 : Try.f10.body.isNone = false := by kernel_rfl
theorem nm11 : (Try.f11.name == "runtime.NumGoroutine") = false := by kernel_rfl
theorem bd11 : Try.f11.body.isNone = false := by kernel_rfl
theorem nm12 : (Try.f12.name == "runtime.NumGoroutine") = false := by kernel_rfl
theorem bd12 : Try.f12.body.isNone = false := by kernel_rfl
theorem nm13 : (Try.f13.name == "runtime.NumGoroutine") = false := by kernel_rfl
theorem bd13 : Try.f13.body.isNone = false := by kernel_rfl
theorem nm14 : (Try.f14.name == "runtime.NumGoroutine") = false := by kernel_rfl
theorem bd14 : Try.f14.body.isNone = false := by kernel_rfl
theorem nm15 : (Try.f15.name == "runtime.NumGoroutine") = false := by kernel_rfl
theorem bd15 : Try.f15.body.isNone = false := by kernel_rfl
theorem nm16 : (Try.f16.name == "runtime.NumGoroutine") = false := by kernel_rfl
theorem bd16 : Try.f16.body.isNone = false := by kernel_rfl
theorem nm17 : (Try.f17.name == "runtime.NumGoroutine") = false := by kernel_rfl
theorem bd17 : Try.f17.body.isNone = false := by kernel_rfl
theorem nm18 : (Try.f18.name == "runtime.NumGoroutine") = false := by kernel_rfl
theorem bd18 : Try.f18.body.isNone = false := by kernel_rfl
theorem nm19 : (Try.f19.name == "runtime.NumGoroutine") = false := by kernel_rfl
theorem bd19 : Try.f19.body.isNone = false := by kernel_rfl
theorem nm20 : (Try.f20.name == "runtime.NumGoroutine") = false := by kernel_rfl
theorem bd20 : Try.f20.body.isNone = false := by kernel_rfl
theorem nm21 : (Try.f21.name == "runtime.NumGoroutine") = false := by kernel_rfl
theorem bd21 : Try.f21.body.isNone = false := by kernel_rfl
theorem nm22 : (Try.f22.name == "runtime.NumGoroutine") = false := by kernel_rfl
theorem bd22 : Try.f22.body.isNone = false := by kernel_rfl
theorem nm23 : (Try.f23.name == "runtime.NumGoroutine") = false := by kernel_rfl
theorem bd23 : Try.f23.body.isNone = false := by kernel_rfl
theorem nm24 : (Try.f24.name == "runtime.NumGoroutine") = false := by kernel_rfl
theorem bd24 : Try.f24.body.isNone = false := by kernel_rfl
theorem nm25 : (Try.f25.name == "runtime.NumGoroutine") = false := by kernel_rfl
theorem bd25 : Try.f25.body.isNone = false := by kernel_rfl
theorem nm26 : (Try.f26.name == "runtime.NumGoroutine") = false := by kernel_rfl
theorem bd26 : Try.f26.body.isNone = false := by kernel_rfl
theorem nm27 : (Try.f27.name == "runtime.NumGoroutine") = false := by kernel_rfl
theorem bd27 : Try.f27.body.isNone = false := by kernel_rfl
theorem nm28 : (Try.f28.name == "runtime.NumGoroutine") = false := by kernel_rfl
theorem bd28 : Try.f28.body.isNone = false := by kernel_rfl
theorem nm29 : (Try.f29.name == "runtime.NumGoroutine") = false := by kernel_rfl
theorem bd29 : Try.f29.body.isNone = false := by kernel_rfl
theorem nm30 : (Try.f30.name == "runtime.NumGoroutine") = false := by kernel_rfl
theorem bd30 : Try.f30.body.isNone = false := by kernel_rfl
theorem nm31 : (Try.f31.name == "runtime.NumGoroutine") = false := by kernel_rfl
theorem bd31 : Try.f31.body.isNone = false := by kernel_rfl
theorem nm32 : (Try.f32.name == "runtime.NumGoroutine") = false := by kernel_rfl
theorem bd32 : Try.f32.body.isNone = false := by kernel_rfl
theorem nm33 : (Try.f33.name == "runtime.NumGoroutine") = false := by kernel_rfl
theorem bd33 : Try.f33.body.isNone = false := by kernel_rfl
theorem nm34 : (Try.f34.name == "runtime.NumGoroutine") = false := by kernel_rfl
theorem bd34 : Try.f34.body.isNone = false := by kernel_rfl
theorem nm35 : (Try.f35.name == "runtime.NumGoroutine") = false := by kernel_rfl
theorem bd35 : Try.f35.body.isNone = false := by kernel_rfl
theorem nm36 : (Try.f36.name == "runtime.NumGoroutine") = false := by kernel_rfl
theorem bd36 : Try.f36.body.isNone = false := by kernel_rfl
theorem nm37 : (Try.f37.name == "runtime.NumGoroutine") = false := by kernel_rfl
theorem bd37 : Try.f37.body.isNone = false := by kernel_rfl
theorem nm38 : (Try.f38.name == "runtime.NumGoroutine") = false := by kernel_rfl
theorem bd38 : Try.f38.body.isNone = false := by kernel_rfl
theorem nm39 : (Try.f39.name == "runtime.NumGoroutine") = false := by kernel_rfl
theorem bd39 : Try.f39.body.isNone = false := by kernel_rfl
theorem nm40 : (Try.f40.name == "runtime.NumGoroutine") = false := by kernel_rfl
theorem bd40 : Try.f40.body.isNone = false := by kernel_rfl
theorem nm41 : (Try.f41.name == "runtime.NumGoroutine") = false := by kernel_rfl
theorem bd41 : Try.f41.body.isNone = false := by kernel_rfl
theorem nm42 : (Try.f42.name == "runtime.NumGoroutine") = false := by kernel_rfl
theorem bd42 : Try.f42.body.isNone = false := by kernel_rfl
theorem nm43 : (Try.f43.name == "runtime.NumGoroutine") = false := by kernel_rfl
theorem bd43 : Try.f43.body.isNone = false := by kernel_rfl
theorem nm44 : (Try.f44.name == "runtime.NumGoroutine") = false := by kernel_rfl
theorem bd44 : Try.f44.body.isNone = false := by kernel_rfl
theorem nm45 : (Try.f45.name == "runtime.NumGoroutine") = false := by kernel_rfl
theorem bd45 : Try.f45.body.isNone = false := by kernel_rfl
theorem nm46 : (Try.f46.name == "runtime.NumGoroutine") = false := by kernel_rfl
theorem bd46 : Try.f46.body.isNone = false := by kernel_rfl
theorem nm47 : (Try.f47.name == "runtime.NumGoroutine") = false := by kernel_rfl
theorem bd47 : Try.f47.body.isNone = false := by kernel_rfl
theorem nm48 : (Try.f48.name == "runtime.NumGoroutine") = false := by kernel_rfl
theorem bd48 : Try.f48.body.isNone = false := by kernel_rfl
theorem nm49 : (Try.f49.name == "runtime.NumGoroutine") = false := by kernel_rfl
theorem bd49 : Try.f49.body.isNone = false := by kernel_rfl
theorem nm50 : (Try.f50.name == "runtime.NumGoroutine") = false := by kernel_rfl
theorem bd50 : Try.f50.body.isNone = false := by kernel_rfl
theorem nm51 : (Try.f51.name == "runtime.NumGoroutine") = false := by kernel_rfl
theorem bd51 : Try.f51.body.isNone = false := by kernel_rfl
theorem nm52 : (Try.f52.name == "runtime.NumGoroutine") = false := by kernel_rfl
theorem bd52 : Try.f52.body.isNone = false := by kernel_rfl
theorem nm53 : (Try.f53.name == "runtime.NumGoroutine") = false := by kernel_rfl
theorem bd53 : Try.f53.body.isNone = false := by kernel_rfl
theorem nm54 : (Try.f54.name == "runtime.NumGoroutine") = false := by kernel_rfl
theorem bd54 : Try.f54.body.isNone = false := by kernel_rfl
theorem nm55 : (Try.f55.name == "runtime.NumGoroutine") = false := by kernel_rfl
theorem bd55 : Try.f55.body.isNone = false := by kernel_rfl
theorem nm56 : (Try.f56.name == "runtime.NumGoroutine") = false := by kernel_rfl
theorem bd56 : Try.f56.body.isNone = false := by kernel_rfl
theorem nm57 : (Try.f57.name == "runtime.NumGoroutine") = false := by kernel_rfl
theorem bd57 : Try.f57.body.isNone = false := by kernel_rfl
theorem nm58 : (Try.f58.name == "runtime.NumGoroutine") = false := by kernel_rfl
theorem bd58 : Try.f58.body.isNone = false := by kernel_rfl
theorem nm59 : (Try.f59.name == "runtime.NumGoroutine") = false := by kernel_rfl
theorem bd59 : Try.f59.body.isNone = false := by kernel_rfl
theorem nm60 : (Try.f60.name == "runtime.NumGoroutine") = false := by kernel_rfl
theorem bd60 : Try.f60.body.isNone = false := by kernel_rfl
theorem nm61 : (Try.f61.name == "runtime.NumGoroutine") = false := by kernel_rfl
theorem bd61 : Try.f61.body.isNone = false := by kernel_rfl
theorem nm62 : (Try.f62.name == "runtime.NumGoroutine") = false := by kernel_rfl
theorem bd62 : Try.f62.body.isNone = false := by kernel_rfl
theorem nm63 : (Try.f63.name == "runtime.NumGoroutine") = false := by kernel_rfl
theorem bd63 : Try.f63.body.isNone = false := by kernel_rfl
theorem nm64 : (Try.f64.name == "runtime.NumGoroutine") = false := by kernel_rfl
theorem bd64 : Try.f64.body.isNone = false := by kernel_rfl
theorem nm65 : (Try.f65.name == "runtime.NumGoroutine") = false := by kernel_rfl
theorem bd65 : Try.f65.body.isNone = false := by kernel_rfl
theorem nm66 : (Try.f66.name == "runtime.NumGoroutine") = false := by kernel_rfl
theorem bd66 : Try.f66.body.isNone = false := by kernel_rfl
theorem nm67 : (Try.f67.name == "runtime.NumGoroutine") = false := by kernel_rfl
theorem bd67 : Try.f67.body.isNone = false := by kernel_rfl
theorem nm68 : (Try.f68.name == "runtime.NumGoroutine") = false := by kernel_rfl
theorem bd68 : Try.f68.body.isNone = false := by kernel_rfl
theorem nm69 : (Try.f69.name == "runtime.NumGoroutine") = false := by kernel_rfl
theorem bd69 : Try.f69.body.isNone = false := by kernel_rfl
theorem nm70 : (Try.f70.name == "runtime.NumGoroutine") = false := by kernel_rfl
theorem nm71 : (Try.f71.name == "runtime.NumGoroutine") = false := by kernel_rfl
theorem nm72 : (Try.f72.name == "runtime.NumGoroutine") = false := by kernel_rfl
theorem nm73 : (Try.f73.name == "runtime.NumGoroutine") = false := by kernel_rfl
theorem nm74 : (Try.f74.name == "runtime.NumGoroutine") = false := by kernel_rfl
theorem nm75 : (Try.f75.name == "runtime.NumGoroutine") = false := by kernel_rfl
theorem nm76 : (Try.f76.name == "runtime.NumGoroutine") = false := by kernel_rfl
theorem nm77 : (Try.f77.name == "runtime.NumGoroutine") = false := by kernel_rfl
theorem nm78 : (Try.f78.name == "runtime.NumGoroutine") = false := by kernel_rfl
theorem nm79 : (Try.f79.name == "runtime.NumGoroutine") = false := by kernel_rfl
theorem nm80 : (Try.f80.name == "runtime.NumGoroutine") = false := by kernel_rfl
theorem nm81 : (Try.f81.name == "runtime.NumGoroutine") = false := by kernel_rfl
theorem nm82 : (Try.f82.name == "runtime.NumGoroutine") = false := by kernel_rfl
theorem nm83 : (Try.f83.name == "runtime.NumGoroutine") = false := by kernel_rfl
theorem nm84 : (Try.f84.name == "runtime.NumGoroutine") = false := by kernel_rfl
theorem nm85 : (Try.f85.name == "runtime.NumGoroutine") = false := by kernel_rfl
theorem nm86 : (Try.f86.name == "runtime.NumGoroutine") = false := by kernel_rfl
theorem nm87 : (Try.f87.name == "runtime.NumGoroutine") = false := by kernel_rfl
theorem nm88 : (Try.f88.name == "runtime.NumGoroutine") = false := by kernel_rfl
theorem nm89 : (Try.f89.name == "runtime.NumGoroutine") = false := by kernel_rfl
theorem nm90 : (Try.f90.name == "runtime.NumGoroutine") = false := by kernel_rfl
theorem nm91 : (Try.f91.name == "runtime.NumGoroutine") = false := by kernel_rfl
theorem nm92 : (Try.f92.name == "runtime.NumGoroutine") = false := by kernel_rfl
theorem nm93 : (Try.f93.name == "runtime.NumGoroutine") = false := by kernel_rfl
theorem nm94 : (Try.f94.name == "runtime.NumGoroutine") = false := by kernel_rfl
theorem nm95 : (Try.f95.name == "runtime.NumGoroutine") = false := by kernel_rfl
theorem nm96 : (Try.f96.name == "runtime.NumGoroutine") = false := by kernel_rfl
theorem mixed : Try.prog.follows .mixedOrders = true := by kernel_rfl
end Go.Pse
