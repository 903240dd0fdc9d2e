/- Closed facts on the types of the translation, by a program of this session (genty.py). -/
import Derived.Test.YthjgdlhkdjgjpaaGreatProg
import Derived.Test.YthjgdlhkdjgjpaaGreatMap
import Derived.Laws.StructEq
import Derived.KernelRfl
namespace Go.Pse
open Go.RowKit
open Go.Proofs

theorem ty3 : Ty Tryz.prog 3 1 8 false [.int .i64 0] := ⟨by kernel_rfl, by rw [Tryz.underlying3]; rfl⟩
theorem ty4 : Ty Tryz.prog 4 1 1 false [.bool false] := ⟨by kernel_rfl, by rw [Tryz.underlying4]; rfl⟩
theorem ty5 : Ty Tryz.prog 5 1 1 false [.int .u8 0] := ⟨by kernel_rfl, by rw [Tryz.underlying5]; rfl⟩
theorem ty9 : Ty Tryz.prog 9 1 16 false [.string ⟨#[]⟩] := ⟨by kernel_rfl, by rw [Tryz.underlying9]; rfl⟩
theorem ty21 : Ty Tryz.prog 21 1 4 false [.int .i32 0] := ⟨by kernel_rfl, by rw [Tryz.underlying21]; rfl⟩
theorem ty22 : Ty Tryz.prog 22 1 24 false [.slice none 0 0] := ⟨by kernel_rfl, by rw [Tryz.underlying22]; rfl⟩
theorem ty24 : Ty Tryz.prog 24 1 8 false [.pointer none] := ⟨by kernel_rfl, by rw [Tryz.underlying24]; rfl⟩
theorem ty27 : Ty Tryz.prog 27 5 40 true [.int .i64 0, .int .i64 0, .int .i64 0, .int .i64 0, .bool false] := ⟨by kernel_rfl, by rw [Tryz.underlying27]; rfl⟩
theorem ty28 : Ty Tryz.prog 28 1 8 false [.pointer none] := ⟨by kernel_rfl, by rw [Tryz.underlying28]; rfl⟩
theorem ty30 : Ty Tryz.prog 30 1 8 false [.pointer none] := ⟨by kernel_rfl, by rw [Tryz.underlying30]; rfl⟩
theorem ty35 : Ty Tryz.prog 35 2 16 true [.int .i64 0, .int .i64 0] := ⟨by kernel_rfl, by rw [Tryz.underlying35]; rfl⟩
theorem ty36 : Ty Tryz.prog 36 1 4 false [.int .u32 0] := ⟨by kernel_rfl, by rw [Tryz.underlying36]; rfl⟩
theorem ty38 : Ty Tryz.prog 38 7 48 true [.int .i64 0, .int .i64 0, .int .u32 0, .int .i64 0, .int .i64 0, .int .u32 0, .bool false] := ⟨by kernel_rfl, by rw [Tryz.underlying38]; rfl⟩
theorem ty43 : Ty Tryz.prog 43 1 8 false [.pointer none] := ⟨by kernel_rfl, by rw [Tryz.underlying43]; rfl⟩
theorem ty45 : Ty Tryz.prog 45 1 8 false [.pointer none] := ⟨by kernel_rfl, by rw [Tryz.underlying45]; rfl⟩
theorem ty48 : Ty Tryz.prog 48 2 16 true [.int .i64 0, .int .i64 0] := ⟨by kernel_rfl, by rw [Tryz.underlying48]; rfl⟩
theorem ty49 : Ty Tryz.prog 49 1 24 false [.slice none 0 0] := ⟨by kernel_rfl, by rw [Tryz.underlying49]; rfl⟩
theorem ty54 : Ty Tryz.prog 54 2 16 true [.int .i64 0, .int .i64 0] := ⟨by kernel_rfl, by rw [Tryz.underlying54]; rfl⟩
theorem ty56 : Ty Tryz.prog 56 2 16 true [.int .i64 0, .int .i64 0] := ⟨by kernel_rfl, by rw [Tryz.underlying56]; rfl⟩
theorem ty59 : Ty Tryz.prog 59 1 8 false [.pointer none] := ⟨by kernel_rfl, by rw [Tryz.underlying59]; rfl⟩
theorem ty61 : Ty Tryz.prog 61 1 8 false [.map none] := ⟨by kernel_rfl, by rw [Tryz.underlying61]; rfl⟩
theorem ty62 : Ty Tryz.prog 62 1 8 false [.map none] := ⟨by kernel_rfl, by rw [Tryz.underlying62]; rfl⟩
theorem ty63 : Ty Tryz.prog 63 1 8 false [.map none] := ⟨by kernel_rfl, by rw [Tryz.underlying63]; rfl⟩
theorem ty64 : Ty Tryz.prog 64 1 8 false [.map none] := ⟨by kernel_rfl, by rw [Tryz.underlying64]; rfl⟩
theorem ty65 : Ty Tryz.prog 65 1 8 false [.map none] := ⟨by kernel_rfl, by rw [Tryz.underlying65]; rfl⟩
theorem ty66 : Ty Tryz.prog 66 1 8 false [.map none] := ⟨by kernel_rfl, by rw [Tryz.underlying66]; rfl⟩
theorem ty67 : Ty Tryz.prog 67 1 8 false [.map none] := ⟨by kernel_rfl, by rw [Tryz.underlying67]; rfl⟩
theorem ty68 : Ty Tryz.prog 68 1 8 false [.map none] := ⟨by kernel_rfl, by rw [Tryz.underlying68]; rfl⟩
theorem ty69 : Ty Tryz.prog 69 1 8 false [.map none] := ⟨by kernel_rfl, by rw [Tryz.underlying69]; rfl⟩
theorem ty71 : Ty Tryz.prog 71 1 8 true [.map none] := ⟨by kernel_rfl, by rw [Tryz.underlying71]; rfl⟩
theorem ty72 : Ty Tryz.prog 72 1 8 false [.map none] := ⟨by kernel_rfl, by rw [Tryz.underlying72]; rfl⟩
theorem ty74 : Ty Tryz.prog 74 1 8 true [.map none] := ⟨by kernel_rfl, by rw [Tryz.underlying74]; rfl⟩
theorem ty75 : Ty Tryz.prog 75 1 8 false [.map none] := ⟨by kernel_rfl, by rw [Tryz.underlying75]; rfl⟩
theorem ty77 : Ty Tryz.prog 77 1 8 true [.map none] := ⟨by kernel_rfl, by rw [Tryz.underlying77]; rfl⟩
theorem ty78 : Ty Tryz.prog 78 1 24 false [.slice none 0 0] := ⟨by kernel_rfl, by rw [Tryz.underlying78]; rfl⟩
theorem ty80 : Ty Tryz.prog 80 1 24 true [.slice none 0 0] := ⟨by kernel_rfl, by rw [Tryz.underlying80]; rfl⟩
theorem ty81 : Ty Tryz.prog 81 1 8 false [.map none] := ⟨by kernel_rfl, by rw [Tryz.underlying81]; rfl⟩
theorem ty83 : Ty Tryz.prog 83 1 8 true [.map none] := ⟨by kernel_rfl, by rw [Tryz.underlying83]; rfl⟩
theorem ty84 : Ty Tryz.prog 84 1 24 false [.slice none 0 0] := ⟨by kernel_rfl, by rw [Tryz.underlying84]; rfl⟩
theorem ty86 : Ty Tryz.prog 86 1 24 true [.slice none 0 0] := ⟨by kernel_rfl, by rw [Tryz.underlying86]; rfl⟩
theorem ty87 : Ty Tryz.prog 87 1 24 false [.slice none 0 0] := ⟨by kernel_rfl, by rw [Tryz.underlying87]; rfl⟩
theorem ty89 : Ty Tryz.prog 89 1 24 true [.slice none 0 0] := ⟨by kernel_rfl, by rw [Tryz.underlying89]; rfl⟩
theorem ty90 : Ty Tryz.prog 90 1 8 false [.int .u64 0] := ⟨by kernel_rfl, by rw [Tryz.underlying90]; rfl⟩
theorem ty92 : Ty Tryz.prog 92 23 232 true [.int .i64 0, .int .i64 0, .int .i64 0, .int .i64 0, .bool false, .pointer none, .map none, .map none, .map none, .slice none 0 0, .map none, .slice none 0 0, .slice none 0 0, .map none, .map none, .map none, .map none, .map none, .map none, .map none, .map none, .map none, .int .u64 0] := ⟨by kernel_rfl, by rw [Tryz.underlying92]; rfl⟩
theorem ty93 : Ty Tryz.prog 93 1 8 false [.pointer none] := ⟨by kernel_rfl, by rw [Tryz.underlying93]; rfl⟩
theorem ty94 : Ty Tryz.prog 94 1 24 false [.slice none 0 0] := ⟨by kernel_rfl, by rw [Tryz.underlying94]; rfl⟩
theorem ty95 : Ty Tryz.prog 95 1 24 false [.slice none 0 0] := ⟨by kernel_rfl, by rw [Tryz.underlying95]; rfl⟩
theorem ty97 : Ty Tryz.prog 97 2 48 true [.slice none 0 0, .slice none 0 0] := ⟨by kernel_rfl, by rw [Tryz.underlying97]; rfl⟩
theorem ty98 : Ty Tryz.prog 98 1 8 false [.pointer none] := ⟨by kernel_rfl, by rw [Tryz.underlying98]; rfl⟩
theorem ty99 : Ty Tryz.prog 99 1 24 false [.slice none 0 0] := ⟨by kernel_rfl, by rw [Tryz.underlying99]; rfl⟩
theorem ty100 : Ty Tryz.prog 100 1 8 false [.map none] := ⟨by kernel_rfl, by rw [Tryz.underlying100]; rfl⟩
theorem ty102 : Ty Tryz.prog 102 2 32 true [.slice none 0 0, .map none] := ⟨by kernel_rfl, by rw [Tryz.underlying102]; rfl⟩
theorem ty104 : Ty Tryz.prog 104 3 40 true [.int .u32 0, .slice none 0 0, .map none] := ⟨by kernel_rfl, by rw [Tryz.underlying104]; rfl⟩
theorem ty110 : Ty Tryz.prog 110 1 24 false [.slice none 0 0] := ⟨by kernel_rfl, by rw [Tryz.underlying110]; rfl⟩
theorem ty113 : Ty Tryz.prog 113 1 8 false [.pointer none] := ⟨by kernel_rfl, by rw [Tryz.underlying113]; rfl⟩
theorem ty115 : Ty Tryz.prog 115 1 24 false [.slice none 0 0] := ⟨by kernel_rfl, by rw [Tryz.underlying115]; rfl⟩
theorem ty119 : Ty Tryz.prog 119 5 40 true [.int .i64 0, .int .i64 0, .int .i64 0, .int .i64 0, .int .i64 0] := ⟨by kernel_rfl, by rw [Tryz.underlying119]; rfl⟩
theorem ty121 : Ty Tryz.prog 121 8 64 true [.int .i64 0, .int .i64 0, .int .i64 0, .int .i64 0, .int .i64 0, .int .i64 0, .int .i64 0, .int .i64 0] := ⟨by kernel_rfl, by rw [Tryz.underlying121]; rfl⟩
theorem ty124 : Ty Tryz.prog 124 1 8 false [.map none] := ⟨by kernel_rfl, by rw [Tryz.underlying124]; rfl⟩
theorem ty129 : Ty Tryz.prog 129 2 16 true [.int .i64 0, .int .i64 0] := ⟨by kernel_rfl, by rw [Tryz.underlying129]; rfl⟩
theorem ty139 : Ty Tryz.prog 139 1 24 false [.slice none 0 0] := ⟨by kernel_rfl, by rw [Tryz.underlying139]; rfl⟩
theorem ty141 : Ty Tryz.prog 141 1 24 true [.slice none 0 0] := ⟨by kernel_rfl, by rw [Tryz.underlying141]; rfl⟩
theorem ty142 : Ty Tryz.prog 142 1 24 false [.slice none 0 0] := ⟨by kernel_rfl, by rw [Tryz.underlying142]; rfl⟩
theorem ty143 : Ty Tryz.prog 143 1 24 false [.slice none 0 0] := ⟨by kernel_rfl, by rw [Tryz.underlying143]; rfl⟩
theorem ty145 : Ty Tryz.prog 145 2 16 true [.int .i64 0, .int .u32 0] := ⟨by kernel_rfl, by rw [Tryz.underlying145]; rfl⟩
theorem ty147 : Ty Tryz.prog 147 1 8 false [.pointer none] := ⟨by kernel_rfl, by rw [Tryz.underlying147]; rfl⟩
theorem ty149 : Ty Tryz.prog 149 3 24 true [.int .i64 0, .int .i64 0, .bool false] := ⟨by kernel_rfl, by rw [Tryz.underlying149]; rfl⟩
theorem ty154 : Ty Tryz.prog 154 8 40 true [.int .i64 0, .int .i64 0, .int .u32 0, .int .u32 0, .int .u32 0, .int .u32 0, .int .u32 0, .int .u32 0] := ⟨by kernel_rfl, by rw [Tryz.underlying154]; rfl⟩
theorem ty156 : Ty Tryz.prog 156 13 72 true [.int .i64 0, .int .i64 0, .int .i64 0, .int .i64 0, .int .u32 0, .int .u32 0, .int .u32 0, .int .u32 0, .int .u32 0, .int .u32 0, .int .i64 0, .bool false, .bool false] := ⟨by kernel_rfl, by rw [Tryz.underlying156]; rfl⟩
theorem ty165 : Ty Tryz.prog 165 4 16 true [.int .u32 0, .int .i32 0, .int .u32 0, .int .u32 0] := ⟨by kernel_rfl, by rw [Tryz.underlying165]; rfl⟩
theorem ty167 : Ty Tryz.prog 167 8 72 true [.pointer none, .int .i64 0, .int .i64 0, .int .i64 0, .int .i64 0, .int .u32 0, .int .u32 0, .slice none 0 0] := ⟨by kernel_rfl, by rw [Tryz.underlying167]; rfl⟩
theorem ty169 : Ty Tryz.prog 169 7 56 true [.int .i64 0, .int .i64 0, .int .i64 0, .int .i64 0, .int .i64 0, .int .i64 0, .int .i64 0] := ⟨by kernel_rfl, by rw [Tryz.underlying169]; rfl⟩
theorem ty171 : Ty Tryz.prog 171 1 24 false [.slice none 0 0] := ⟨by kernel_rfl, by rw [Tryz.underlying171]; rfl⟩
theorem ty178 : Ty Tryz.prog 178 1 24 false [.slice none 0 0] := ⟨by kernel_rfl, by rw [Tryz.underlying178]; rfl⟩
theorem ty188 : Ty Tryz.prog 188 1 8 false [.pointer none] := ⟨by kernel_rfl, by rw [Tryz.underlying188]; rfl⟩
theorem ty190 : Ty Tryz.prog 190 2 16 true [.int .i64 0, .int .i64 0] := ⟨by kernel_rfl, by rw [Tryz.underlying190]; rfl⟩
theorem ty193 : Ty Tryz.prog 193 1 8 false [.int .u64 0] := ⟨by kernel_rfl, by rw [Tryz.underlying193]; rfl⟩
theorem ty212 : Ty Tryz.prog 212 5 40 true [.int .i64 0, .int .i64 0, .int .u32 0, .int .i64 0, .bool false] := ⟨by kernel_rfl, by rw [Tryz.underlying212]; rfl⟩
theorem ty214 : Ty Tryz.prog 214 3 24 true [.int .i64 0, .int .i64 0, .int .i64 0] := ⟨by kernel_rfl, by rw [Tryz.underlying214]; rfl⟩
theorem ty220 : Ty Tryz.prog 220 1 8 false [.pointer none] := ⟨by kernel_rfl, by rw [Tryz.underlying220]; rfl⟩
theorem ty225 : Ty Tryz.prog 225 1 8 false [.int .i64 0] := ⟨by kernel_rfl, by rw [Tryz.underlying225]; rfl⟩
theorem ty248 : Ty Tryz.prog 248 3 24 true [.int .u64 0, .int .i64 0, .int .i64 0] := ⟨by kernel_rfl, by rw [Tryz.underlying248]; rfl⟩
theorem ty249 : Ty Tryz.prog 249 1 8 false [.int .u64 0] := ⟨by kernel_rfl, by rw [Tryz.underlying249]; rfl⟩
theorem ty253 : Ty Tryz.prog 253 1 8 false [.pointer none] := ⟨by kernel_rfl, by rw [Tryz.underlying253]; rfl⟩
theorem ty307 : Ty Tryz.prog 307 2 16 true [.int .i64 0, .int .i64 0] := ⟨by kernel_rfl, by rw [Tryz.underlying307]; rfl⟩
theorem fa27_0 (a : Addr) (w : World) : (Instr.fieldAt 27 (.pointer (some a)) 0).run Tryz.prog w = .ok (.pointer (some (a.add 0))) w := by
  simp [Instr.fieldAt, run_underlying Tryz.underlying27, Instr.sureAddr, fieldPlace, ty3.sizeOf]
theorem fa27_1 (a : Addr) (w : World) : (Instr.fieldAt 27 (.pointer (some a)) 1).run Tryz.prog w = .ok (.pointer (some (a.add 1))) w := by
  simp [Instr.fieldAt, run_underlying Tryz.underlying27, Instr.sureAddr, fieldPlace, ty3.sizeOf]
theorem fa27_2 (a : Addr) (w : World) : (Instr.fieldAt 27 (.pointer (some a)) 2).run Tryz.prog w = .ok (.pointer (some (a.add 2))) w := by
  simp [Instr.fieldAt, run_underlying Tryz.underlying27, Instr.sureAddr, fieldPlace, ty3.sizeOf]
theorem fa27_3 (a : Addr) (w : World) : (Instr.fieldAt 27 (.pointer (some a)) 3).run Tryz.prog w = .ok (.pointer (some (a.add 3))) w := by
  simp [Instr.fieldAt, run_underlying Tryz.underlying27, Instr.sureAddr, fieldPlace, ty3.sizeOf]
theorem fa27_4 (a : Addr) (w : World) : (Instr.fieldAt 27 (.pointer (some a)) 4).run Tryz.prog w = .ok (.pointer (some (a.add 4))) w := by
  simp [Instr.fieldAt, run_underlying Tryz.underlying27, Instr.sureAddr, fieldPlace, ty4.sizeOf]
theorem fa35_0 (a : Addr) (w : World) : (Instr.fieldAt 35 (.pointer (some a)) 0).run Tryz.prog w = .ok (.pointer (some (a.add 0))) w := by
  simp [Instr.fieldAt, run_underlying Tryz.underlying35, Instr.sureAddr, fieldPlace, ty3.sizeOf]
theorem fa35_1 (a : Addr) (w : World) : (Instr.fieldAt 35 (.pointer (some a)) 1).run Tryz.prog w = .ok (.pointer (some (a.add 1))) w := by
  simp [Instr.fieldAt, run_underlying Tryz.underlying35, Instr.sureAddr, fieldPlace, ty3.sizeOf]
theorem fa38_0 (a : Addr) (w : World) : (Instr.fieldAt 38 (.pointer (some a)) 0).run Tryz.prog w = .ok (.pointer (some (a.add 0))) w := by
  simp [Instr.fieldAt, run_underlying Tryz.underlying38, Instr.sureAddr, fieldPlace, ty35.sizeOf]
theorem fa38_5 (a : Addr) (w : World) : (Instr.fieldAt 38 (.pointer (some a)) 5).run Tryz.prog w = .ok (.pointer (some (a.add 6))) w := by
  simp [Instr.fieldAt, run_underlying Tryz.underlying38, Instr.sureAddr, fieldPlace, ty4.sizeOf]
theorem fa48_0 (a : Addr) (w : World) : (Instr.fieldAt 48 (.pointer (some a)) 0).run Tryz.prog w = .ok (.pointer (some (a.add 0))) w := by
  simp [Instr.fieldAt, run_underlying Tryz.underlying48, Instr.sureAddr, fieldPlace, ty3.sizeOf]
theorem fa48_1 (a : Addr) (w : World) : (Instr.fieldAt 48 (.pointer (some a)) 1).run Tryz.prog w = .ok (.pointer (some (a.add 1))) w := by
  simp [Instr.fieldAt, run_underlying Tryz.underlying48, Instr.sureAddr, fieldPlace, ty3.sizeOf]
theorem fa54_0 (a : Addr) (w : World) : (Instr.fieldAt 54 (.pointer (some a)) 0).run Tryz.prog w = .ok (.pointer (some (a.add 0))) w := by
  simp [Instr.fieldAt, run_underlying Tryz.underlying54, Instr.sureAddr, fieldPlace, ty3.sizeOf]
theorem fa54_1 (a : Addr) (w : World) : (Instr.fieldAt 54 (.pointer (some a)) 1).run Tryz.prog w = .ok (.pointer (some (a.add 1))) w := by
  simp [Instr.fieldAt, run_underlying Tryz.underlying54, Instr.sureAddr, fieldPlace, ty3.sizeOf]
theorem fa56_0 (a : Addr) (w : World) : (Instr.fieldAt 56 (.pointer (some a)) 0).run Tryz.prog w = .ok (.pointer (some (a.add 0))) w := by
  simp [Instr.fieldAt, run_underlying Tryz.underlying56, Instr.sureAddr, fieldPlace, ty3.sizeOf]
theorem fa56_1 (a : Addr) (w : World) : (Instr.fieldAt 56 (.pointer (some a)) 1).run Tryz.prog w = .ok (.pointer (some (a.add 1))) w := by
  simp [Instr.fieldAt, run_underlying Tryz.underlying56, Instr.sureAddr, fieldPlace, ty3.sizeOf]
theorem fa71_0 (a : Addr) (w : World) : (Instr.fieldAt 71 (.pointer (some a)) 0).run Tryz.prog w = .ok (.pointer (some (a.add 0))) w := by
  simp [Instr.fieldAt, run_underlying Tryz.underlying71, Instr.sureAddr, fieldPlace, ty69.sizeOf]
theorem fa77_0 (a : Addr) (w : World) : (Instr.fieldAt 77 (.pointer (some a)) 0).run Tryz.prog w = .ok (.pointer (some (a.add 0))) w := by
  simp [Instr.fieldAt, run_underlying Tryz.underlying77, Instr.sureAddr, fieldPlace, ty75.sizeOf]
theorem fa80_0 (a : Addr) (w : World) : (Instr.fieldAt 80 (.pointer (some a)) 0).run Tryz.prog w = .ok (.pointer (some (a.add 0))) w := by
  simp [Instr.fieldAt, run_underlying Tryz.underlying80, Instr.sureAddr, fieldPlace, ty78.sizeOf]
theorem fa83_0 (a : Addr) (w : World) : (Instr.fieldAt 83 (.pointer (some a)) 0).run Tryz.prog w = .ok (.pointer (some (a.add 0))) w := by
  simp [Instr.fieldAt, run_underlying Tryz.underlying83, Instr.sureAddr, fieldPlace, ty81.sizeOf]
theorem fa86_0 (a : Addr) (w : World) : (Instr.fieldAt 86 (.pointer (some a)) 0).run Tryz.prog w = .ok (.pointer (some (a.add 0))) w := by
  simp [Instr.fieldAt, run_underlying Tryz.underlying86, Instr.sureAddr, fieldPlace, ty84.sizeOf]
theorem fa89_0 (a : Addr) (w : World) : (Instr.fieldAt 89 (.pointer (some a)) 0).run Tryz.prog w = .ok (.pointer (some (a.add 0))) w := by
  simp [Instr.fieldAt, run_underlying Tryz.underlying89, Instr.sureAddr, fieldPlace, ty87.sizeOf]
theorem fa92_0 (a : Addr) (w : World) : (Instr.fieldAt 92 (.pointer (some a)) 0).run Tryz.prog w = .ok (.pointer (some (a.add 0))) w := by
  simp [Instr.fieldAt, run_underlying Tryz.underlying92, Instr.sureAddr, fieldPlace, ty27.sizeOf]
theorem fa92_1 (a : Addr) (w : World) : (Instr.fieldAt 92 (.pointer (some a)) 1).run Tryz.prog w = .ok (.pointer (some (a.add 5))) w := by
  simp [Instr.fieldAt, run_underlying Tryz.underlying92, Instr.sureAddr, fieldPlace, ty59.sizeOf]
theorem fa92_2 (a : Addr) (w : World) : (Instr.fieldAt 92 (.pointer (some a)) 2).run Tryz.prog w = .ok (.pointer (some (a.add 6))) w := by
  simp [Instr.fieldAt, run_underlying Tryz.underlying92, Instr.sureAddr, fieldPlace, ty71.sizeOf]
theorem fa92_4 (a : Addr) (w : World) : (Instr.fieldAt 92 (.pointer (some a)) 4).run Tryz.prog w = .ok (.pointer (some (a.add 8))) w := by
  simp [Instr.fieldAt, run_underlying Tryz.underlying92, Instr.sureAddr, fieldPlace, ty77.sizeOf]
theorem fa92_5 (a : Addr) (w : World) : (Instr.fieldAt 92 (.pointer (some a)) 5).run Tryz.prog w = .ok (.pointer (some (a.add 9))) w := by
  simp [Instr.fieldAt, run_underlying Tryz.underlying92, Instr.sureAddr, fieldPlace, ty80.sizeOf]
theorem fa92_6 (a : Addr) (w : World) : (Instr.fieldAt 92 (.pointer (some a)) 6).run Tryz.prog w = .ok (.pointer (some (a.add 10))) w := by
  simp [Instr.fieldAt, run_underlying Tryz.underlying92, Instr.sureAddr, fieldPlace, ty83.sizeOf]
theorem fa92_7 (a : Addr) (w : World) : (Instr.fieldAt 92 (.pointer (some a)) 7).run Tryz.prog w = .ok (.pointer (some (a.add 11))) w := by
  simp [Instr.fieldAt, run_underlying Tryz.underlying92, Instr.sureAddr, fieldPlace, ty86.sizeOf]
theorem fa92_8 (a : Addr) (w : World) : (Instr.fieldAt 92 (.pointer (some a)) 8).run Tryz.prog w = .ok (.pointer (some (a.add 12))) w := by
  simp [Instr.fieldAt, run_underlying Tryz.underlying92, Instr.sureAddr, fieldPlace, ty89.sizeOf]
theorem fa92_9 (a : Addr) (w : World) : (Instr.fieldAt 92 (.pointer (some a)) 9).run Tryz.prog w = .ok (.pointer (some (a.add 13))) w := by
  simp [Instr.fieldAt, run_underlying Tryz.underlying92, Instr.sureAddr, fieldPlace, ty61.sizeOf]
theorem fa92_10 (a : Addr) (w : World) : (Instr.fieldAt 92 (.pointer (some a)) 10).run Tryz.prog w = .ok (.pointer (some (a.add 14))) w := by
  simp [Instr.fieldAt, run_underlying Tryz.underlying92, Instr.sureAddr, fieldPlace, ty62.sizeOf]
theorem fa92_11 (a : Addr) (w : World) : (Instr.fieldAt 92 (.pointer (some a)) 11).run Tryz.prog w = .ok (.pointer (some (a.add 15))) w := by
  simp [Instr.fieldAt, run_underlying Tryz.underlying92, Instr.sureAddr, fieldPlace, ty63.sizeOf]
theorem fa92_12 (a : Addr) (w : World) : (Instr.fieldAt 92 (.pointer (some a)) 12).run Tryz.prog w = .ok (.pointer (some (a.add 16))) w := by
  simp [Instr.fieldAt, run_underlying Tryz.underlying92, Instr.sureAddr, fieldPlace, ty64.sizeOf]
theorem fa92_13 (a : Addr) (w : World) : (Instr.fieldAt 92 (.pointer (some a)) 13).run Tryz.prog w = .ok (.pointer (some (a.add 17))) w := by
  simp [Instr.fieldAt, run_underlying Tryz.underlying92, Instr.sureAddr, fieldPlace, ty65.sizeOf]
theorem fa92_14 (a : Addr) (w : World) : (Instr.fieldAt 92 (.pointer (some a)) 14).run Tryz.prog w = .ok (.pointer (some (a.add 18))) w := by
  simp [Instr.fieldAt, run_underlying Tryz.underlying92, Instr.sureAddr, fieldPlace, ty66.sizeOf]
theorem fa92_16 (a : Addr) (w : World) : (Instr.fieldAt 92 (.pointer (some a)) 16).run Tryz.prog w = .ok (.pointer (some (a.add 20))) w := by
  simp [Instr.fieldAt, run_underlying Tryz.underlying92, Instr.sureAddr, fieldPlace, ty68.sizeOf]
theorem fa92_17 (a : Addr) (w : World) : (Instr.fieldAt 92 (.pointer (some a)) 17).run Tryz.prog w = .ok (.pointer (some (a.add 21))) w := by
  simp [Instr.fieldAt, run_underlying Tryz.underlying92, Instr.sureAddr, fieldPlace, ty67.sizeOf]
theorem fa97_0 (a : Addr) (w : World) : (Instr.fieldAt 97 (.pointer (some a)) 0).run Tryz.prog w = .ok (.pointer (some (a.add 0))) w := by
  simp [Instr.fieldAt, run_underlying Tryz.underlying97, Instr.sureAddr, fieldPlace, ty94.sizeOf]
theorem fa97_1 (a : Addr) (w : World) : (Instr.fieldAt 97 (.pointer (some a)) 1).run Tryz.prog w = .ok (.pointer (some (a.add 1))) w := by
  simp [Instr.fieldAt, run_underlying Tryz.underlying97, Instr.sureAddr, fieldPlace, ty95.sizeOf]
theorem fa102_0 (a : Addr) (w : World) : (Instr.fieldAt 102 (.pointer (some a)) 0).run Tryz.prog w = .ok (.pointer (some (a.add 0))) w := by
  simp [Instr.fieldAt, run_underlying Tryz.underlying102, Instr.sureAddr, fieldPlace, ty99.sizeOf]
theorem fa104_1 (a : Addr) (w : World) : (Instr.fieldAt 104 (.pointer (some a)) 1).run Tryz.prog w = .ok (.pointer (some (a.add 1))) w := by
  simp [Instr.fieldAt, run_underlying Tryz.underlying104, Instr.sureAddr, fieldPlace, ty102.sizeOf]
theorem fa119_0 (a : Addr) (w : World) : (Instr.fieldAt 119 (.pointer (some a)) 0).run Tryz.prog w = .ok (.pointer (some (a.add 0))) w := by
  simp [Instr.fieldAt, run_underlying Tryz.underlying119, Instr.sureAddr, fieldPlace, ty3.sizeOf]
theorem fa119_1 (a : Addr) (w : World) : (Instr.fieldAt 119 (.pointer (some a)) 1).run Tryz.prog w = .ok (.pointer (some (a.add 1))) w := by
  simp [Instr.fieldAt, run_underlying Tryz.underlying119, Instr.sureAddr, fieldPlace, ty3.sizeOf]
theorem fa119_2 (a : Addr) (w : World) : (Instr.fieldAt 119 (.pointer (some a)) 2).run Tryz.prog w = .ok (.pointer (some (a.add 2))) w := by
  simp [Instr.fieldAt, run_underlying Tryz.underlying119, Instr.sureAddr, fieldPlace, ty3.sizeOf]
theorem fa119_3 (a : Addr) (w : World) : (Instr.fieldAt 119 (.pointer (some a)) 3).run Tryz.prog w = .ok (.pointer (some (a.add 3))) w := by
  simp [Instr.fieldAt, run_underlying Tryz.underlying119, Instr.sureAddr, fieldPlace, ty3.sizeOf]
theorem fa119_4 (a : Addr) (w : World) : (Instr.fieldAt 119 (.pointer (some a)) 4).run Tryz.prog w = .ok (.pointer (some (a.add 4))) w := by
  simp [Instr.fieldAt, run_underlying Tryz.underlying119, Instr.sureAddr, fieldPlace, ty3.sizeOf]
theorem fa121_0 (a : Addr) (w : World) : (Instr.fieldAt 121 (.pointer (some a)) 0).run Tryz.prog w = .ok (.pointer (some (a.add 0))) w := by
  simp [Instr.fieldAt, run_underlying Tryz.underlying121, Instr.sureAddr, fieldPlace, ty3.sizeOf]
theorem fa121_1 (a : Addr) (w : World) : (Instr.fieldAt 121 (.pointer (some a)) 1).run Tryz.prog w = .ok (.pointer (some (a.add 1))) w := by
  simp [Instr.fieldAt, run_underlying Tryz.underlying121, Instr.sureAddr, fieldPlace, ty3.sizeOf]
theorem fa121_2 (a : Addr) (w : World) : (Instr.fieldAt 121 (.pointer (some a)) 2).run Tryz.prog w = .ok (.pointer (some (a.add 2))) w := by
  simp [Instr.fieldAt, run_underlying Tryz.underlying121, Instr.sureAddr, fieldPlace, ty3.sizeOf]
theorem fa121_3 (a : Addr) (w : World) : (Instr.fieldAt 121 (.pointer (some a)) 3).run Tryz.prog w = .ok (.pointer (some (a.add 3))) w := by
  simp [Instr.fieldAt, run_underlying Tryz.underlying121, Instr.sureAddr, fieldPlace, ty119.sizeOf]
theorem fa129_0 (a : Addr) (w : World) : (Instr.fieldAt 129 (.pointer (some a)) 0).run Tryz.prog w = .ok (.pointer (some (a.add 0))) w := by
  simp [Instr.fieldAt, run_underlying Tryz.underlying129, Instr.sureAddr, fieldPlace, ty3.sizeOf]
theorem fa129_1 (a : Addr) (w : World) : (Instr.fieldAt 129 (.pointer (some a)) 1).run Tryz.prog w = .ok (.pointer (some (a.add 1))) w := by
  simp [Instr.fieldAt, run_underlying Tryz.underlying129, Instr.sureAddr, fieldPlace, ty3.sizeOf]
theorem fa141_0 (a : Addr) (w : World) : (Instr.fieldAt 141 (.pointer (some a)) 0).run Tryz.prog w = .ok (.pointer (some (a.add 0))) w := by
  simp [Instr.fieldAt, run_underlying Tryz.underlying141, Instr.sureAddr, fieldPlace, ty139.sizeOf]
theorem fa149_0 (a : Addr) (w : World) : (Instr.fieldAt 149 (.pointer (some a)) 0).run Tryz.prog w = .ok (.pointer (some (a.add 0))) w := by
  simp [Instr.fieldAt, run_underlying Tryz.underlying149, Instr.sureAddr, fieldPlace, ty35.sizeOf]
theorem fa149_1 (a : Addr) (w : World) : (Instr.fieldAt 149 (.pointer (some a)) 1).run Tryz.prog w = .ok (.pointer (some (a.add 2))) w := by
  simp [Instr.fieldAt, run_underlying Tryz.underlying149, Instr.sureAddr, fieldPlace, ty4.sizeOf]
theorem fa156_0 (a : Addr) (w : World) : (Instr.fieldAt 156 (.pointer (some a)) 0).run Tryz.prog w = .ok (.pointer (some (a.add 0))) w := by
  simp [Instr.fieldAt, run_underlying Tryz.underlying156, Instr.sureAddr, fieldPlace, ty35.sizeOf]
theorem fa156_4 (a : Addr) (w : World) : (Instr.fieldAt 156 (.pointer (some a)) 4).run Tryz.prog w = .ok (.pointer (some (a.add 12))) w := by
  simp [Instr.fieldAt, run_underlying Tryz.underlying156, Instr.sureAddr, fieldPlace, ty4.sizeOf]
theorem fa167_1 (a : Addr) (w : World) : (Instr.fieldAt 167 (.pointer (some a)) 1).run Tryz.prog w = .ok (.pointer (some (a.add 1))) w := by
  simp [Instr.fieldAt, run_underlying Tryz.underlying167, Instr.sureAddr, fieldPlace, ty3.sizeOf]
theorem fa167_2 (a : Addr) (w : World) : (Instr.fieldAt 167 (.pointer (some a)) 2).run Tryz.prog w = .ok (.pointer (some (a.add 2))) w := by
  simp [Instr.fieldAt, run_underlying Tryz.underlying167, Instr.sureAddr, fieldPlace, ty3.sizeOf]
theorem fa167_6 (a : Addr) (w : World) : (Instr.fieldAt 167 (.pointer (some a)) 6).run Tryz.prog w = .ok (.pointer (some (a.add 6))) w := by
  simp [Instr.fieldAt, run_underlying Tryz.underlying167, Instr.sureAddr, fieldPlace, ty36.sizeOf]
theorem fa167_7 (a : Addr) (w : World) : (Instr.fieldAt 167 (.pointer (some a)) 7).run Tryz.prog w = .ok (.pointer (some (a.add 7))) w := by
  simp [Instr.fieldAt, run_underlying Tryz.underlying167, Instr.sureAddr, fieldPlace, ty115.sizeOf]
theorem fa169_0 (a : Addr) (w : World) : (Instr.fieldAt 169 (.pointer (some a)) 0).run Tryz.prog w = .ok (.pointer (some (a.add 0))) w := by
  simp [Instr.fieldAt, run_underlying Tryz.underlying169, Instr.sureAddr, fieldPlace, ty119.sizeOf]
theorem fa190_0 (a : Addr) (w : World) : (Instr.fieldAt 190 (.pointer (some a)) 0).run Tryz.prog w = .ok (.pointer (some (a.add 0))) w := by
  simp [Instr.fieldAt, run_underlying Tryz.underlying190, Instr.sureAddr, fieldPlace, ty3.sizeOf]
theorem fa212_0 (a : Addr) (w : World) : (Instr.fieldAt 212 (.pointer (some a)) 0).run Tryz.prog w = .ok (.pointer (some (a.add 0))) w := by
  simp [Instr.fieldAt, run_underlying Tryz.underlying212, Instr.sureAddr, fieldPlace, ty35.sizeOf]
theorem fa214_0 (a : Addr) (w : World) : (Instr.fieldAt 214 (.pointer (some a)) 0).run Tryz.prog w = .ok (.pointer (some (a.add 0))) w := by
  simp [Instr.fieldAt, run_underlying Tryz.underlying214, Instr.sureAddr, fieldPlace, ty35.sizeOf]
theorem fa248_1 (a : Addr) (w : World) : (Instr.fieldAt 248 (.pointer (some a)) 1).run Tryz.prog w = .ok (.pointer (some (a.add 1))) w := by
  simp [Instr.fieldAt, run_underlying Tryz.underlying248, Instr.sureAddr, fieldPlace, ty35.sizeOf]
theorem fd169_1 {c0 c1 c2 c3 c4 c5 c6 : Value} (w : World) : (Instr.field 169 (.agg #[c0, c1, c2, c3, c4, c5, c6]) 1).run Tryz.prog w = .ok (.agg #[c5, c6]) w := by
  simp [Instr.field, run_underlying Tryz.underlying169, part, asAgg, ty129.isAgg, ty129.sizeOf]
theorem bld27 {F : Env} {n : Nat} {dst : Option Tmp} {T : TypeId} {p : String} {e : Array Edge} {g : Option (Nat × Bool)} {parts : Array (Nat × Operand)} {ps : List (Nat × Value)} {cs : List Value} (hps : Parts F parts.toList ps) (h : Fil [(0, 1), (1, 1), (2, 1), (3, 1), (4, 1)] ps [.int .i64 0, .int .i64 0, .int .i64 0, .int .i64 0, .bool false] cs) : Pur Tryz.prog ⟨dst, .build 27 parts, T, p, e, g⟩ F n (.agg cs.toArray) :=
  p_build ty27 Tryz.underlying27 (by intro w; simp [ty3.sizeOf, ty4.sizeOf]) hps h
theorem bld35 {F : Env} {n : Nat} {dst : Option Tmp} {T : TypeId} {p : String} {e : Array Edge} {g : Option (Nat × Bool)} {parts : Array (Nat × Operand)} {ps : List (Nat × Value)} {cs : List Value} (hps : Parts F parts.toList ps) (h : Fil [(0, 1), (1, 1)] ps [.int .i64 0, .int .i64 0] cs) : Pur Tryz.prog ⟨dst, .build 35 parts, T, p, e, g⟩ F n (.agg cs.toArray) :=
  p_build ty35 Tryz.underlying35 (by intro w; simp [ty3.sizeOf]) hps h
theorem bld38 {F : Env} {n : Nat} {dst : Option Tmp} {T : TypeId} {p : String} {e : Array Edge} {g : Option (Nat × Bool)} {parts : Array (Nat × Operand)} {ps : List (Nat × Value)} {cs : List Value} (hps : Parts F parts.toList ps) (h : Fil [(0, 2), (2, 1), (3, 1), (4, 1), (5, 1), (6, 1)] ps [.int .i64 0, .int .i64 0, .int .u32 0, .int .i64 0, .int .i64 0, .int .u32 0, .bool false] cs) : Pur Tryz.prog ⟨dst, .build 38 parts, T, p, e, g⟩ F n (.agg cs.toArray) :=
  p_build ty38 Tryz.underlying38 (by intro w; simp [ty3.sizeOf, ty35.sizeOf, ty36.sizeOf, ty4.sizeOf]) hps h
theorem bld48 {F : Env} {n : Nat} {dst : Option Tmp} {T : TypeId} {p : String} {e : Array Edge} {g : Option (Nat × Bool)} {parts : Array (Nat × Operand)} {ps : List (Nat × Value)} {cs : List Value} (hps : Parts F parts.toList ps) (h : Fil [(0, 1), (1, 1)] ps [.int .i64 0, .int .i64 0] cs) : Pur Tryz.prog ⟨dst, .build 48 parts, T, p, e, g⟩ F n (.agg cs.toArray) :=
  p_build ty48 Tryz.underlying48 (by intro w; simp [ty3.sizeOf]) hps h
theorem bld54 {F : Env} {n : Nat} {dst : Option Tmp} {T : TypeId} {p : String} {e : Array Edge} {g : Option (Nat × Bool)} {parts : Array (Nat × Operand)} {ps : List (Nat × Value)} {cs : List Value} (hps : Parts F parts.toList ps) (h : Fil [(0, 1), (1, 1)] ps [.int .i64 0, .int .i64 0] cs) : Pur Tryz.prog ⟨dst, .build 54 parts, T, p, e, g⟩ F n (.agg cs.toArray) :=
  p_build ty54 Tryz.underlying54 (by intro w; simp [ty3.sizeOf]) hps h
theorem bld56 {F : Env} {n : Nat} {dst : Option Tmp} {T : TypeId} {p : String} {e : Array Edge} {g : Option (Nat × Bool)} {parts : Array (Nat × Operand)} {ps : List (Nat × Value)} {cs : List Value} (hps : Parts F parts.toList ps) (h : Fil [(0, 1), (1, 1)] ps [.int .i64 0, .int .i64 0] cs) : Pur Tryz.prog ⟨dst, .build 56 parts, T, p, e, g⟩ F n (.agg cs.toArray) :=
  p_build ty56 Tryz.underlying56 (by intro w; simp [ty3.sizeOf]) hps h
theorem bld92 {F : Env} {n : Nat} {dst : Option Tmp} {T : TypeId} {p : String} {e : Array Edge} {g : Option (Nat × Bool)} {parts : Array (Nat × Operand)} {ps : List (Nat × Value)} {cs : List Value} (hps : Parts F parts.toList ps) (h : Fil [(0, 5), (5, 1), (6, 1), (7, 1), (8, 1), (9, 1), (10, 1), (11, 1), (12, 1), (13, 1), (14, 1), (15, 1), (16, 1), (17, 1), (18, 1), (19, 1), (20, 1), (21, 1), (22, 1)] ps [.int .i64 0, .int .i64 0, .int .i64 0, .int .i64 0, .bool false, .pointer none, .map none, .map none, .map none, .slice none 0 0, .map none, .slice none 0 0, .slice none 0 0, .map none, .map none, .map none, .map none, .map none, .map none, .map none, .map none, .map none, .int .u64 0] cs) : Pur Tryz.prog ⟨dst, .build 92 parts, T, p, e, g⟩ F n (.agg cs.toArray) :=
  p_build ty92 Tryz.underlying92 (by intro w; simp [ty27.sizeOf, ty59.sizeOf, ty61.sizeOf, ty62.sizeOf, ty63.sizeOf, ty64.sizeOf, ty65.sizeOf, ty66.sizeOf, ty67.sizeOf, ty68.sizeOf, ty71.sizeOf, ty74.sizeOf, ty77.sizeOf, ty80.sizeOf, ty83.sizeOf, ty86.sizeOf, ty89.sizeOf, ty90.sizeOf]) hps h
theorem bld97 {F : Env} {n : Nat} {dst : Option Tmp} {T : TypeId} {p : String} {e : Array Edge} {g : Option (Nat × Bool)} {parts : Array (Nat × Operand)} {ps : List (Nat × Value)} {cs : List Value} (hps : Parts F parts.toList ps) (h : Fil [(0, 1), (1, 1)] ps [.slice none 0 0, .slice none 0 0] cs) : Pur Tryz.prog ⟨dst, .build 97 parts, T, p, e, g⟩ F n (.agg cs.toArray) :=
  p_build ty97 Tryz.underlying97 (by intro w; simp [ty94.sizeOf, ty95.sizeOf]) hps h
theorem bld104 {F : Env} {n : Nat} {dst : Option Tmp} {T : TypeId} {p : String} {e : Array Edge} {g : Option (Nat × Bool)} {parts : Array (Nat × Operand)} {ps : List (Nat × Value)} {cs : List Value} (hps : Parts F parts.toList ps) (h : Fil [(0, 1), (1, 2)] ps [.int .u32 0, .slice none 0 0, .map none] cs) : Pur Tryz.prog ⟨dst, .build 104 parts, T, p, e, g⟩ F n (.agg cs.toArray) :=
  p_build ty104 Tryz.underlying104 (by intro w; simp [ty102.sizeOf, ty36.sizeOf]) hps h
theorem bld119 {F : Env} {n : Nat} {dst : Option Tmp} {T : TypeId} {p : String} {e : Array Edge} {g : Option (Nat × Bool)} {parts : Array (Nat × Operand)} {ps : List (Nat × Value)} {cs : List Value} (hps : Parts F parts.toList ps) (h : Fil [(0, 1), (1, 1), (2, 1), (3, 1), (4, 1)] ps [.int .i64 0, .int .i64 0, .int .i64 0, .int .i64 0, .int .i64 0] cs) : Pur Tryz.prog ⟨dst, .build 119 parts, T, p, e, g⟩ F n (.agg cs.toArray) :=
  p_build ty119 Tryz.underlying119 (by intro w; simp [ty3.sizeOf]) hps h
theorem bld121 {F : Env} {n : Nat} {dst : Option Tmp} {T : TypeId} {p : String} {e : Array Edge} {g : Option (Nat × Bool)} {parts : Array (Nat × Operand)} {ps : List (Nat × Value)} {cs : List Value} (hps : Parts F parts.toList ps) (h : Fil [(0, 1), (1, 1), (2, 1), (3, 5)] ps [.int .i64 0, .int .i64 0, .int .i64 0, .int .i64 0, .int .i64 0, .int .i64 0, .int .i64 0, .int .i64 0] cs) : Pur Tryz.prog ⟨dst, .build 121 parts, T, p, e, g⟩ F n (.agg cs.toArray) :=
  p_build ty121 Tryz.underlying121 (by intro w; simp [ty119.sizeOf, ty3.sizeOf]) hps h
theorem bld129 {F : Env} {n : Nat} {dst : Option Tmp} {T : TypeId} {p : String} {e : Array Edge} {g : Option (Nat × Bool)} {parts : Array (Nat × Operand)} {ps : List (Nat × Value)} {cs : List Value} (hps : Parts F parts.toList ps) (h : Fil [(0, 1), (1, 1)] ps [.int .i64 0, .int .i64 0] cs) : Pur Tryz.prog ⟨dst, .build 129 parts, T, p, e, g⟩ F n (.agg cs.toArray) :=
  p_build ty129 Tryz.underlying129 (by intro w; simp [ty3.sizeOf]) hps h
theorem bld141 {F : Env} {n : Nat} {dst : Option Tmp} {T : TypeId} {p : String} {e : Array Edge} {g : Option (Nat × Bool)} {parts : Array (Nat × Operand)} {ps : List (Nat × Value)} {cs : List Value} (hps : Parts F parts.toList ps) (h : Fil [(0, 1)] ps [.slice none 0 0] cs) : Pur Tryz.prog ⟨dst, .build 141 parts, T, p, e, g⟩ F n (.agg cs.toArray) :=
  p_build ty141 Tryz.underlying141 (by intro w; simp [ty139.sizeOf]) hps h
theorem bld145 {F : Env} {n : Nat} {dst : Option Tmp} {T : TypeId} {p : String} {e : Array Edge} {g : Option (Nat × Bool)} {parts : Array (Nat × Operand)} {ps : List (Nat × Value)} {cs : List Value} (hps : Parts F parts.toList ps) (h : Fil [(0, 1), (1, 1)] ps [.int .i64 0, .int .u32 0] cs) : Pur Tryz.prog ⟨dst, .build 145 parts, T, p, e, g⟩ F n (.agg cs.toArray) :=
  p_build ty145 Tryz.underlying145 (by intro w; simp [ty3.sizeOf, ty36.sizeOf]) hps h
theorem bld149 {F : Env} {n : Nat} {dst : Option Tmp} {T : TypeId} {p : String} {e : Array Edge} {g : Option (Nat × Bool)} {parts : Array (Nat × Operand)} {ps : List (Nat × Value)} {cs : List Value} (hps : Parts F parts.toList ps) (h : Fil [(0, 2), (2, 1)] ps [.int .i64 0, .int .i64 0, .bool false] cs) : Pur Tryz.prog ⟨dst, .build 149 parts, T, p, e, g⟩ F n (.agg cs.toArray) :=
  p_build ty149 Tryz.underlying149 (by intro w; simp [ty35.sizeOf, ty4.sizeOf]) hps h
theorem bld167 {F : Env} {n : Nat} {dst : Option Tmp} {T : TypeId} {p : String} {e : Array Edge} {g : Option (Nat × Bool)} {parts : Array (Nat × Operand)} {ps : List (Nat × Value)} {cs : List Value} (hps : Parts F parts.toList ps) (h : Fil [(0, 1), (1, 1), (2, 1), (3, 1), (4, 1), (5, 1), (6, 1), (7, 1)] ps [.pointer none, .int .i64 0, .int .i64 0, .int .i64 0, .int .i64 0, .int .u32 0, .int .u32 0, .slice none 0 0] cs) : Pur Tryz.prog ⟨dst, .build 167 parts, T, p, e, g⟩ F n (.agg cs.toArray) :=
  p_build ty167 Tryz.underlying167 (by intro w; simp [ty115.sizeOf, ty3.sizeOf, ty36.sizeOf, ty59.sizeOf]) hps h
theorem bld169 {F : Env} {n : Nat} {dst : Option Tmp} {T : TypeId} {p : String} {e : Array Edge} {g : Option (Nat × Bool)} {parts : Array (Nat × Operand)} {ps : List (Nat × Value)} {cs : List Value} (hps : Parts F parts.toList ps) (h : Fil [(0, 5), (5, 2)] ps [.int .i64 0, .int .i64 0, .int .i64 0, .int .i64 0, .int .i64 0, .int .i64 0, .int .i64 0] cs) : Pur Tryz.prog ⟨dst, .build 169 parts, T, p, e, g⟩ F n (.agg cs.toArray) :=
  p_build ty169 Tryz.underlying169 (by intro w; simp [ty119.sizeOf, ty129.sizeOf]) hps h
theorem bld190 {F : Env} {n : Nat} {dst : Option Tmp} {T : TypeId} {p : String} {e : Array Edge} {g : Option (Nat × Bool)} {parts : Array (Nat × Operand)} {ps : List (Nat × Value)} {cs : List Value} (hps : Parts F parts.toList ps) (h : Fil [(0, 1), (1, 1)] ps [.int .i64 0, .int .i64 0] cs) : Pur Tryz.prog ⟨dst, .build 190 parts, T, p, e, g⟩ F n (.agg cs.toArray) :=
  p_build ty190 Tryz.underlying190 (by intro w; simp [ty3.sizeOf]) hps h
theorem shp48 : Tryz.prog.stoodInHeld 48 = false := by kernel_rfl
theorem flds48 : Tryz.prog.underlying 48 = some (.struct (Tryz.prog.fieldsOf 48)) := by kernel_rfl
theorem eqin48 (a0 b0 : Int) (a1 b1 : Int) (D : Nat) (w : World) : (Op.equalIn (D + 2) 48 (.agg #[.int .i64 a0, .int .i64 a1]) (.agg #[.int .i64 b0, .int .i64 b1])).run Tryz.prog w = .ok (decide (a0 = b0 ∧ a1 = b1)) w := by
  have h0 := run_equalIn_int (P := Tryz.prog) w (D + 0) 3 .i64 .i64 a0 b0 Tryz.underlying3
  have h1 := run_equalIn_int (P := Tryz.prog) w (D + 0) 3 .i64 .i64 a1 b1 Tryz.underlying3
  simp only [Nat.add_zero] at h0 h1
  rw [run_equalIn_struct w (D + 1) 48 _ _ flds48 shp48]
  simp only [Program.fieldsOf, Tryz.underlying48]
  simp [Op.eqFields, part, ty3.isAgg, ty3.sizeOf, h0, h1]
  (repeat' split) <;> simp_all
theorem eg48 (op : BinOp) (x y : Operand) (xs ys : Array Value) (w : World) : (eqGuard op 48 x y (.agg xs) (.agg ys)).run Tryz.prog w = .ok () w := run_eqGuard_agg w op 48 x y xs ys (by kernel_rfl)
theorem eqv48 (a0 b0 : Int) (a1 b1 : Int) (w : World) : (binOp .eql 48 (.agg #[.int .i64 a0, .int .i64 a1]) (.agg #[.int .i64 b0, .int .i64 b1])).run Tryz.prog w = .ok (.bool (decide (a0 = b0 ∧ a1 = b1))) w := by
  have h := eqin48 a0 b0 a1 b1 9998 w
  rw [(by decide : 9998 + 2 = 10000)] at h
  rw [run_eql_struct w 48, h]; rfl
theorem nev48 (a0 b0 : Int) (a1 b1 : Int) (w : World) : (binOp .neq 48 (.agg #[.int .i64 a0, .int .i64 a1]) (.agg #[.int .i64 b0, .int .i64 b1])).run Tryz.prog w = .ok (.bool (!decide (a0 = b0 ∧ a1 = b1))) w := by
  have h := eqin48 a0 b0 a1 b1 9998 w
  rw [(by decide : 9998 + 2 = 10000)] at h
  rw [run_neq_struct w 48, h]; rfl
theorem shp129 : Tryz.prog.stoodInHeld 129 = false := by kernel_rfl
theorem flds129 : Tryz.prog.underlying 129 = some (.struct (Tryz.prog.fieldsOf 129)) := by kernel_rfl
theorem eqin129 (a0 b0 : Int) (a1 b1 : Int) (D : Nat) (w : World) : (Op.equalIn (D + 2) 129 (.agg #[.int .i64 a0, .int .i64 a1]) (.agg #[.int .i64 b0, .int .i64 b1])).run Tryz.prog w = .ok (decide (a0 = b0 ∧ a1 = b1)) w := by
  have h0 := run_equalIn_int (P := Tryz.prog) w (D + 0) 3 .i64 .i64 a0 b0 Tryz.underlying3
  have h1 := run_equalIn_int (P := Tryz.prog) w (D + 0) 3 .i64 .i64 a1 b1 Tryz.underlying3
  simp only [Nat.add_zero] at h0 h1
  rw [run_equalIn_struct w (D + 1) 129 _ _ flds129 shp129]
  simp only [Program.fieldsOf, Tryz.underlying129]
  simp [Op.eqFields, part, ty3.isAgg, ty3.sizeOf, h0, h1]
  (repeat' split) <;> simp_all
theorem eg129 (op : BinOp) (x y : Operand) (xs ys : Array Value) (w : World) : (eqGuard op 129 x y (.agg xs) (.agg ys)).run Tryz.prog w = .ok () w := run_eqGuard_agg w op 129 x y xs ys (by kernel_rfl)
theorem eqv129 (a0 b0 : Int) (a1 b1 : Int) (w : World) : (binOp .eql 129 (.agg #[.int .i64 a0, .int .i64 a1]) (.agg #[.int .i64 b0, .int .i64 b1])).run Tryz.prog w = .ok (.bool (decide (a0 = b0 ∧ a1 = b1))) w := by
  have h := eqin129 a0 b0 a1 b1 9998 w
  rw [(by decide : 9998 + 2 = 10000)] at h
  rw [run_eql_struct w 129, h]; rfl
theorem nev129 (a0 b0 : Int) (a1 b1 : Int) (w : World) : (binOp .neq 129 (.agg #[.int .i64 a0, .int .i64 a1]) (.agg #[.int .i64 b0, .int .i64 b1])).run Tryz.prog w = .ok (.bool (!decide (a0 = b0 ∧ a1 = b1))) w := by
  have h := eqin129 a0 b0 a1 b1 9998 w
  rw [(by decide : 9998 + 2 = 10000)] at h
  rw [run_neq_struct w 129, h]; rfl
theorem zv_of {P : Program} {t : TypeId} {z : Value} (h : (P.info? t).bind (·.zero) = some z) : (P.info? t).bind (·.zero) = some z := h
theorem zv3 : (Tryz.prog.info? 3).bind (·.zero) = some (.int .i64 0) := by kernel_rfl
theorem zv4 : (Tryz.prog.info? 4).bind (·.zero) = some (.bool false) := by kernel_rfl
theorem zv56 : (Tryz.prog.info? 56).bind (·.zero) = some (.agg #[.int .i64 0, .int .i64 0]) := by kernel_rfl
theorem zv93 : (Tryz.prog.info? 93).bind (·.zero) = some (.pointer none) := by kernel_rfl
theorem zv98 : (Tryz.prog.info? 98).bind (·.zero) = some (.pointer none) := by kernel_rfl
theorem zv113 : (Tryz.prog.info? 113).bind (·.zero) = some (.pointer none) := by kernel_rfl
theorem zv121 : (Tryz.prog.info? 121).bind (·.zero) = some (.agg #[.int .i64 0, .int .i64 0, .int .i64 0, .int .i64 0, .int .i64 0, .int .i64 0, .int .i64 0, .int .i64 0]) := by kernel_rfl
theorem zv145 : (Tryz.prog.info? 145).bind (·.zero) = some (.agg #[.int .i64 0, .int .u32 0]) := by kernel_rfl
theorem zv147 : (Tryz.prog.info? 147).bind (·.zero) = some (.pointer none) := by kernel_rfl
theorem zv156 : (Tryz.prog.info? 156).bind (·.zero) = some (.agg #[.int .i64 0, .int .i64 0, .int .i64 0, .int .i64 0, .int .u32 0, .int .u32 0, .int .u32 0, .int .u32 0, .int .u32 0, .int .u32 0, .int .i64 0, .bool false, .bool false]) := by kernel_rfl
theorem zv169 : (Tryz.prog.info? 169).bind (·.zero) = some (.agg #[.int .i64 0, .int .i64 0, .int .i64 0, .int .i64 0, .int .i64 0, .int .i64 0, .int .i64 0]) := by kernel_rfl
theorem ky3 : Ky Tryz.prog 3 (fun a : Int => Value.int .i64 a) := ky_int Tryz.underlying3
theorem shp35 : Tryz.prog.stoodInHeld 35 = false := by kernel_rfl
theorem flds35 : Tryz.prog.underlying 35 = some (.struct (Tryz.prog.fieldsOf 35)) := by kernel_rfl
theorem eqin35 (a0 b0 : Int) (a1 b1 : Int) (D : Nat) (w : World) : (Op.equalIn (D + 2) 35 (.agg #[.int .i64 a0, .int .i64 a1]) (.agg #[.int .i64 b0, .int .i64 b1])).run Tryz.prog w = .ok (decide (a0 = b0 ∧ a1 = b1)) w := by
  have h0 := run_equalIn_int (P := Tryz.prog) w (D + 0) 3 .i64 .i64 a0 b0 Tryz.underlying3
  have h1 := run_equalIn_int (P := Tryz.prog) w (D + 0) 3 .i64 .i64 a1 b1 Tryz.underlying3
  simp only [Nat.add_zero] at h0 h1
  rw [run_equalIn_struct w (D + 1) 35 _ _ flds35 shp35]
  simp only [Program.fieldsOf, Tryz.underlying35]
  simp [Op.eqFields, part, ty3.isAgg, ty3.sizeOf, h0, h1]
  (repeat' split) <;> simp_all
theorem ky35 : Ky Tryz.prog 35 (fun a : Int × Int => Value.agg #[.int .i64 a.1, .int .i64 a.2]) := by
  refine ky_struct Tryz.underlying35 (fun a => ?_) (fun a em w => ?_) (fun a b w => ?_)
  · have : ∀ n, Instr.sameBits (n + 2) (.agg #[.int .i64 a.1, .int .i64 a.2]) (.agg #[.int .i64 a.1, .int .i64 a.2]) = true := fun n => by simp [Instr.sameBits]
    have h := this 9998
    rw [(by decide : 9998 + 2 = 10000)] at h
    exact h
  · have : ∀ n, (Instr.checkKey em (n + 2) 35 (.agg #[.int .i64 a.1, .int .i64 a.2])).run Tryz.prog w = .ok () w := fun n => by
      simp [Instr.checkKey, run_underlying Tryz.underlying35, part, run_underlying Tryz.underlying3, ty3.isAgg]
    have h := this 9998
    rw [(by decide : 9998 + 2 = 10000)] at h
    exact h
  · have h := eqin35 a.1 b.1 a.2 b.2 9998 w
    rw [(by decide : 9998 + 2 = 10000)] at h
    have e : decide (a.1 = b.1 ∧ a.2 = b.2) = decide (a = b) := by rw [decide_eq_decide]; exact Prod.ext_iff.symm
    rw [e] at h
    exact h
theorem ky48 : Ky Tryz.prog 48 (fun a : Int × Int => Value.agg #[.int .i64 a.1, .int .i64 a.2]) := by
  refine ky_struct Tryz.underlying48 (fun a => ?_) (fun a em w => ?_) (fun a b w => ?_)
  · have : ∀ n, Instr.sameBits (n + 2) (.agg #[.int .i64 a.1, .int .i64 a.2]) (.agg #[.int .i64 a.1, .int .i64 a.2]) = true := fun n => by simp [Instr.sameBits]
    have h := this 9998
    rw [(by decide : 9998 + 2 = 10000)] at h
    exact h
  · have : ∀ n, (Instr.checkKey em (n + 2) 48 (.agg #[.int .i64 a.1, .int .i64 a.2])).run Tryz.prog w = .ok () w := fun n => by
      simp [Instr.checkKey, run_underlying Tryz.underlying48, part, run_underlying Tryz.underlying3, ty3.isAgg]
    have h := this 9998
    rw [(by decide : 9998 + 2 = 10000)] at h
    exact h
  · have h := eqin48 a.1 b.1 a.2 b.2 9998 w
    rw [(by decide : 9998 + 2 = 10000)] at h
    have e : decide (a.1 = b.1 ∧ a.2 = b.2) = decide (a = b) := by rw [decide_eq_decide]; exact Prod.ext_iff.symm
    rw [e] at h
    exact h
theorem shp54 : Tryz.prog.stoodInHeld 54 = false := by kernel_rfl
theorem flds54 : Tryz.prog.underlying 54 = some (.struct (Tryz.prog.fieldsOf 54)) := by kernel_rfl
theorem eqin54 (a0 b0 : Int) (a1 b1 : Int) (D : Nat) (w : World) : (Op.equalIn (D + 2) 54 (.agg #[.int .i64 a0, .int .i64 a1]) (.agg #[.int .i64 b0, .int .i64 b1])).run Tryz.prog w = .ok (decide (a0 = b0 ∧ a1 = b1)) w := by
  have h0 := run_equalIn_int (P := Tryz.prog) w (D + 0) 3 .i64 .i64 a0 b0 Tryz.underlying3
  have h1 := run_equalIn_int (P := Tryz.prog) w (D + 0) 3 .i64 .i64 a1 b1 Tryz.underlying3
  simp only [Nat.add_zero] at h0 h1
  rw [run_equalIn_struct w (D + 1) 54 _ _ flds54 shp54]
  simp only [Program.fieldsOf, Tryz.underlying54]
  simp [Op.eqFields, part, ty3.isAgg, ty3.sizeOf, h0, h1]
  (repeat' split) <;> simp_all
theorem ky54 : Ky Tryz.prog 54 (fun a : Int × Int => Value.agg #[.int .i64 a.1, .int .i64 a.2]) := by
  refine ky_struct Tryz.underlying54 (fun a => ?_) (fun a em w => ?_) (fun a b w => ?_)
  · have : ∀ n, Instr.sameBits (n + 2) (.agg #[.int .i64 a.1, .int .i64 a.2]) (.agg #[.int .i64 a.1, .int .i64 a.2]) = true := fun n => by simp [Instr.sameBits]
    have h := this 9998
    rw [(by decide : 9998 + 2 = 10000)] at h
    exact h
  · have : ∀ n, (Instr.checkKey em (n + 2) 54 (.agg #[.int .i64 a.1, .int .i64 a.2])).run Tryz.prog w = .ok () w := fun n => by
      simp [Instr.checkKey, run_underlying Tryz.underlying54, part, run_underlying Tryz.underlying3, ty3.isAgg]
    have h := this 9998
    rw [(by decide : 9998 + 2 = 10000)] at h
    exact h
  · have h := eqin54 a.1 b.1 a.2 b.2 9998 w
    rw [(by decide : 9998 + 2 = 10000)] at h
    have e : decide (a.1 = b.1 ∧ a.2 = b.2) = decide (a = b) := by rw [decide_eq_decide]; exact Prod.ext_iff.symm
    rw [e] at h
    exact h
theorem ky129 : Ky Tryz.prog 129 (fun a : Int × Int => Value.agg #[.int .i64 a.1, .int .i64 a.2]) := by
  refine ky_struct Tryz.underlying129 (fun a => ?_) (fun a em w => ?_) (fun a b w => ?_)
  · have : ∀ n, Instr.sameBits (n + 2) (.agg #[.int .i64 a.1, .int .i64 a.2]) (.agg #[.int .i64 a.1, .int .i64 a.2]) = true := fun n => by simp [Instr.sameBits]
    have h := this 9998
    rw [(by decide : 9998 + 2 = 10000)] at h
    exact h
  · have : ∀ n, (Instr.checkKey em (n + 2) 129 (.agg #[.int .i64 a.1, .int .i64 a.2])).run Tryz.prog w = .ok () w := fun n => by
      simp [Instr.checkKey, run_underlying Tryz.underlying129, part, run_underlying Tryz.underlying3, ty3.isAgg]
    have h := this 9998
    rw [(by decide : 9998 + 2 = 10000)] at h
    exact h
  · have h := eqin129 a.1 b.1 a.2 b.2 9998 w
    rw [(by decide : 9998 + 2 = 10000)] at h
    have e : decide (a.1 = b.1 ∧ a.2 = b.2) = decide (a = b) := by rw [decide_eq_decide]; exact Prod.ext_iff.symm
    rw [e] at h
    exact h
theorem shp307 : Tryz.prog.stoodInHeld 307 = false := by kernel_rfl
theorem flds307 : Tryz.prog.underlying 307 = some (.struct (Tryz.prog.fieldsOf 307)) := by kernel_rfl
theorem eqin307 (a0 b0 : Int) (a1 b1 : Int) (D : Nat) (w : World) : (Op.equalIn (D + 2) 307 (.agg #[.int .i64 a0, .int .i64 a1]) (.agg #[.int .i64 b0, .int .i64 b1])).run Tryz.prog w = .ok (decide (a0 = b0 ∧ a1 = b1)) w := by
  have h0 := run_equalIn_int (P := Tryz.prog) w (D + 0) 3 .i64 .i64 a0 b0 Tryz.underlying3
  have h1 := run_equalIn_int (P := Tryz.prog) w (D + 0) 3 .i64 .i64 a1 b1 Tryz.underlying3
  simp only [Nat.add_zero] at h0 h1
  rw [run_equalIn_struct w (D + 1) 307 _ _ flds307 shp307]
  simp only [Program.fieldsOf, Tryz.underlying307]
  simp [Op.eqFields, part, ty3.isAgg, ty3.sizeOf, h0, h1]
  (repeat' split) <;> simp_all
theorem ky307 : Ky Tryz.prog 307 (fun a : Int × Int => Value.agg #[.int .i64 a.1, .int .i64 a.2]) := by
  refine ky_struct Tryz.underlying307 (fun a => ?_) (fun a em w => ?_) (fun a b w => ?_)
  · have : ∀ n, Instr.sameBits (n + 2) (.agg #[.int .i64 a.1, .int .i64 a.2]) (.agg #[.int .i64 a.1, .int .i64 a.2]) = true := fun n => by simp [Instr.sameBits]
    have h := this 9998
    rw [(by decide : 9998 + 2 = 10000)] at h
    exact h
  · have : ∀ n, (Instr.checkKey em (n + 2) 307 (.agg #[.int .i64 a.1, .int .i64 a.2])).run Tryz.prog w = .ok () w := fun n => by
      simp [Instr.checkKey, run_underlying Tryz.underlying307, part, run_underlying Tryz.underlying3, ty3.isAgg]
    have h := this 9998
    rw [(by decide : 9998 + 2 = 10000)] at h
    exact h
  · have h := eqin307 a.1 b.1 a.2 b.2 9998 w
    rw [(by decide : 9998 + 2 = 10000)] at h
    have e : decide (a.1 = b.1 ∧ a.2 = b.2) = decide (a = b) := by rw [decide_eq_decide]; exact Prod.ext_iff.symm
    rw [e] at h
    exact h
theorem nm3 : (Tryz.f3.name == "runtime.NumGoroutine") = false := by kernel_rfl
theorem bd3 : Tryz.f3.body.isNone = false := by kernel_rfl
theorem nm4 : (Tryz.f4.name == "runtime.NumGoroutine") = false := by kernel_rfl
theorem bd4 : Tryz.f4.body.isNone = false := by kernel_rfl
theorem nm5 : (Tryz.f5.name == "runtime.NumGoroutine") = false := by kernel_rfl
theorem bd5 : Tryz.f5.body.isNone = false := by kernel_rfl
theorem nm6 : (Tryz.f6.name == "runtime.NumGoroutine") = false := by kernel_rfl
theorem bd6 : Tryz.f6.body.isNone = false := by kernel_rfl
theorem nm7 : (Tryz.f7.name == "runtime.NumGoroutine") = false := by kernel_rfl
theorem bd7 : Tryz.f7.body.isNone = false := by kernel_rfl
theorem nm8 : (Tryz.f8.name == "runtime.NumGoroutine") = false := by kernel_rfl
theorem bd8 : Tryz.f8.body.isNone = false := by kernel_rfl
theorem nm9 : (Tryz.f9.name == "runtime.NumGoroutine") = false := by kernel_rfl
theorem bd9 : Tryz.f9.body.isNone = false := by kernel_rfl
theorem nm10 : (Tryz.f10.name == "runtime.NumGoroutine") = false := by kernel_rfl
theorem bd10 : Tryz.f10.body.isNone = false := by kernel_rfl
theorem nm11 : (Tryz.f11.name == "runtime.NumGoroutine") = false := by kernel_rfl
theorem bd11 : Tryz.f11.body.isNone = false := by kernel_rfl
theorem nm12 : (Tryz.f12.name == "runtime.NumGoroutine") = false := by kernel_rfl
theorem bd12 : Tryz.f12.body.isNone = false := by kernel_rfl
theorem nm13 : (Tryz.f13.name == "runtime.NumGoroutine") = false := by kernel_rfl
theorem bd13 : Tryz.f13.body.isNone = false := by kernel_rfl
theorem nm14 : (Tryz.f14.name == "runtime.NumGoroutine") = false := by kernel_rfl
theorem bd14 : Tryz.f14.body.isNone = false := by kernel_rfl
theorem nm15 : (Tryz.f15.name == "runtime.NumGoroutine") = false := by kernel_rfl
theorem bd15 : Tryz.f15.body.isNone = false := by kernel_rfl
theorem nm16 : (Tryz.f16.name == "runtime.NumGoroutine") = false := by kernel_rfl
theorem bd16 : Tryz.f16.body.isNone = false := by kernel_rfl
theorem nm17 : (Tryz.f17.name == "runtime.NumGoroutine") = false := by kernel_rfl
theorem bd17 : Tryz.f17.body.isNone = false := by kernel_rfl
theorem nm18 : (Tryz.f18.name == "runtime.NumGoroutine") = false := by kernel_rfl
theorem bd18 : Tryz.f18.body.isNone = false := by kernel_rfl
theorem nm19 : (Tryz.f19.name == "runtime.NumGoroutine") = false := by kernel_rfl
theorem bd19 : Tryz.f19.body.isNone = false := by kernel_rfl
theorem nm20 : (Tryz.f20.name == "runtime.NumGoroutine") = false := by kernel_rfl
theorem bd20 : Tryz.f20.body.isNone = false := by kernel_rfl
theorem nm21 : (Tryz.f21.name == "runtime.NumGoroutine") = false := by kernel_rfl
theorem bd21 : Tryz.f21.body.isNone = false := by kernel_rfl
theorem nm22 : (Tryz.f22.name == "runtime.NumGoroutine") = false := by kernel_rfl
theorem bd22 : Tryz.f22.body.isNone = false := by kernel_rfl
theorem nm23 : (Tryz.f23.name == "runtime.NumGoroutine") = false := by kernel_rfl
theorem bd23 : Tryz.f23.body.isNone = false := by kernel_rfl
theorem nm24 : (Tryz.f24.name == "runtime.NumGoroutine") = false := by kernel_rfl
theorem bd24 : Tryz.f24.body.isNone = false := by kernel_rfl
theorem nm25 : (Tryz.f25.name == "runtime.NumGoroutine") = false := by kernel_rfl
theorem bd25 : Tryz.f25.body.isNone = false := by kernel_rfl
theorem nm26 : (Tryz.f26.name == "runtime.NumGoroutine") = false := by kernel_rfl
theorem bd26 : Tryz.f26.body.isNone = false := by kernel_rfl
theorem nm27 : (Tryz.f27.name == "runtime.NumGoroutine") = false := by kernel_rfl
theorem bd27 : Tryz.f27.body.isNone = false := by kernel_rfl
theorem nm28 : (Tryz.f28.name == "runtime.NumGoroutine") = false := by kernel_rfl
theorem bd28 : Tryz.f28.body.isNone = false := by kernel_rfl
theorem nm29 : (Tryz.f29.name == "runtime.NumGoroutine") = false := by kernel_rfl
theorem bd29 : Tryz.f29.body.isNone = false := by kernel_rfl
theorem nm30 : (Tryz.f30.name == "runtime.NumGoroutine") = false := by kernel_rfl
theorem bd30 : Tryz.f30.body.isNone = false := by kernel_rfl
theorem nm31 : (Tryz.f31.name == "runtime.NumGoroutine") = false := by kernel_rfl
theorem bd31 : Tryz.f31.body.isNone = false := by kernel_rfl
theorem nm32 : (Tryz.f32.name == "runtime.NumGoroutine") = false := by kernel_rfl
theorem bd32 : Tryz.f32.body.isNone = false := by kernel_rfl
theorem nm33 : (Tryz.f33.name == "runtime.NumGoroutine") = false := by kernel_rfl
theorem bd33 : Tryz.f33.body.isNone = false := by kernel_rfl
theorem nm34 : (Tryz.f34.name == "runtime.NumGoroutine") = false := by kernel_rfl
theorem bd34 : Tryz.f34.body.isNone = false := by kernel_rfl
theorem nm35 : (Tryz.f35.name == "runtime.NumGoroutine") = false := by kernel_rfl
theorem bd35 : Tryz.f35.body.isNone = false := by kernel_rfl
theorem nm36 : (Tryz.f36.name == "runtime.NumGoroutine") = false := by kernel_rfl
theorem bd36 : Tryz.f36.body.isNone = false := by kernel_rfl
theorem nm37 : (Tryz.f37.name == "runtime.NumGoroutine") = false := by kernel_rfl
theorem bd37 : Tryz.f37.body.isNone = false := by kernel_rfl
theorem nm38 : (Tryz.f38.name == "runtime.NumGoroutine") = false := by kernel_rfl
theorem bd38 : Tryz.f38.body.isNone = false := by kernel_rfl
theorem nm39 : (Tryz.f39.name == "runtime.NumGoroutine") = false := by kernel_rfl
theorem bd39 : Tryz.f39.body.isNone = false := by kernel_rfl
theorem nm40 : (Tryz.f40.name == "runtime.NumGoroutine") = false := by kernel_rfl
theorem bd40 : Tryz.f40.body.isNone = false := by kernel_rfl
theorem nm41 : (Tryz.f41.name == "runtime.NumGoroutine") = false := by kernel_rfl
theorem bd41 : Tryz.f41.body.isNone = false := by kernel_rfl
theorem nm42 : (Tryz.f42.name == "runtime.NumGoroutine") = false := by kernel_rfl
theorem bd42 : Tryz.f42.body.isNone = false := by kernel_rfl
theorem nm43 : (Tryz.f43.name == "runtime.NumGoroutine") = false := by kernel_rfl
theorem bd43 : Tryz.f43.body.isNone = false := by kernel_rfl
theorem nm44 : (Tryz.f44.name == "runtime.NumGoroutine") = false := by kernel_rfl
theorem bd44 : Tryz.f44.body.isNone = false := by kernel_rfl
theorem nm45 : (Tryz.f45.name == "runtime.NumGoroutine") = false := by kernel_rfl
theorem bd45 : Tryz.f45.body.isNone = false := by kernel_rfl
theorem nm46 : (Tryz.f46.name == "runtime.NumGoroutine") = false := by kernel_rfl
theorem bd46 : Tryz.f46.body.isNone = false := by kernel_rfl
theorem nm47 : (Tryz.f47.name == "runtime.NumGoroutine") = false := by kernel_rfl
theorem bd47 : Tryz.f47.body.isNone = false := by kernel_rfl
theorem nm48 : (Tryz.f48.name == "runtime.NumGoroutine") = false := by kernel_rfl
theorem bd48 : Tryz.f48.body.isNone = false := by kernel_rfl
theorem nm49 : (Tryz.f49.name == "runtime.NumGoroutine") = false := by kernel_rfl
theorem bd49 : Tryz.f49.body.isNone = false := by kernel_rfl
theorem nm50 : (Tryz.f50.name == "runtime.NumGoroutine") = false := by kernel_rfl
theorem bd50 : Tryz.f50.body.isNone = false := by kernel_rfl
theorem nm51 : (Tryz.f51.name == "runtime.NumGoroutine") = false := by kernel_rfl
theorem bd51 : Tryz.f51.body.isNone = false := by kernel_rfl
theorem nm52 : (Tryz.f52.name == "runtime.NumGoroutine") = false := by kernel_rfl
theorem bd52 : Tryz.f52.body.isNone = false := by kernel_rfl
theorem nm53 : (Tryz.f53.name == "runtime.NumGoroutine") = false := by kernel_rfl
theorem bd53 : Tryz.f53.body.isNone = false := by kernel_rfl
theorem nm54 : (Tryz.f54.name == "runtime.NumGoroutine") = false := by kernel_rfl
theorem bd54 : Tryz.f54.body.isNone = false := by kernel_rfl
theorem nm55 : (Tryz.f55.name == "runtime.NumGoroutine") = false := by kernel_rfl
theorem bd55 : Tryz.f55.body.isNone = false := by kernel_rfl
theorem nm56 : (Tryz.f56.name == "runtime.NumGoroutine") = false := by kernel_rfl
theorem bd56 : Tryz.f56.body.isNone = false := by kernel_rfl
theorem nm57 : (Tryz.f57.name == "runtime.NumGoroutine") = false := by kernel_rfl
theorem bd57 : Tryz.f57.body.isNone = false := by kernel_rfl
theorem nm58 : (Tryz.f58.name == "runtime.NumGoroutine") = false := by kernel_rfl
theorem bd58 : Tryz.f58.body.isNone = false := by kernel_rfl
theorem nm59 : (Tryz.f59.name == "runtime.NumGoroutine") = false := by kernel_rfl
theorem bd59 : Tryz.f59.body.isNone = false := by kernel_rfl
theorem nm60 : (Tryz.f60.name == "runtime.NumGoroutine") = false := by kernel_rfl
theorem bd60 : Tryz.f60.body.isNone = false := by kernel_rfl
theorem nm61 : (Tryz.f61.name == "runtime.NumGoroutine") = false := by kernel_rfl
theorem bd61 : Tryz.f61.body.isNone = false := by kernel_rfl
theorem nm62 : (Tryz.f62.name == "runtime.NumGoroutine") = false := by kernel_rfl
theorem bd62 : Tryz.f62.body.isNone = false := by kernel_rfl
theorem nm63 : (Tryz.f63.name == "runtime.NumGoroutine") = false := by kernel_rfl
theorem bd63 : Tryz.f63.body.isNone = false := by kernel_rfl
theorem nm64 : (Tryz.f64.name == "runtime.NumGoroutine") = false := by kernel_rfl
theorem bd64 : Tryz.f64.body.isNone = false := by kernel_rfl
theorem nm65 : (Tryz.f65.name == "runtime.NumGoroutine") = false := by kernel_rfl
theorem bd65 : Tryz.f65.body.isNone = false := by kernel_rfl
theorem nm66 : (Tryz.f66.name == "runtime.NumGoroutine") = false := by kernel_rfl
theorem bd66 : Tryz.f66.body.isNone = false := by kernel_rfl
theorem nm67 : (Tryz.f67.name == "runtime.NumGoroutine") = false := by kernel_rfl
theorem bd67 : Tryz.f67.body.isNone = false := by kernel_rfl
theorem nm68 : (Tryz.f68.name == "runtime.NumGoroutine") = false := by kernel_rfl
theorem bd68 : Tryz.f68.body.isNone = false := by kernel_rfl
theorem nm69 : (Tryz.f69.name == "runtime.NumGoroutine") = false := by kernel_rfl
theorem bd69 : Tryz.f69.body.isNone = false := by kernel_rfl
theorem nm70 : (Tryz.f70.name == "runtime.NumGoroutine") = false := by kernel_rfl
theorem bd70 : Tryz.f70.body.isNone = false := by kernel_rfl
theorem nm71 : (Tryz.f71.name == "runtime.NumGoroutine") = false := by kernel_rfl
theorem bd71 : Tryz.f71.body.isNone = false := by kernel_rfl
theorem nm72 : (Tryz.f72.name == "runtime.NumGoroutine") = false := by kernel_rfl
theorem bd72 : Tryz.f72.body.isNone = false := by kernel_rfl
theorem nm73 : (Tryz.f73.name == "runtime.NumGoroutine") = false := by kernel_rfl
theorem bd73 : Tryz.f73.body.isNone = false := by kernel_rfl
theorem nm74 : (Tryz.f74.name == "runtime.NumGoroutine") = false := by kernel_rfl
theorem bd74 : Tryz.f74.body.isNone = false := by kernel_rfl
theorem nm75 : (Tryz.f75.name == "runtime.NumGoroutine") = false := by kernel_rfl
theorem bd75 : Tryz.f75.body.isNone = false := by kernel_rfl
theorem nm76 : (Tryz.f76.name == "runtime.NumGoroutine") = false := by kernel_rfl
theorem bd76 : Tryz.f76.body.isNone = false := by kernel_rfl
theorem nm77 : (Tryz.f77.name == "runtime.NumGoroutine") = false := by kernel_rfl
theorem bd77 : Tryz.f77.body.isNone = false := by kernel_rfl
theorem nm78 : (Tryz.f78.name == "runtime.NumGoroutine") = false := by kernel_rfl
theorem bd78 : Tryz.f78.body.isNone = false := by kernel_rfl
theorem nm79 : (Tryz.f79.name == "runtime.NumGoroutine") = false := by kernel_rfl
theorem bd79 : Tryz.f79.body.isNone = false := by kernel_rfl
theorem nm80 : (Tryz.f80.name == "runtime.NumGoroutine") = false := by kernel_rfl
theorem bd80 : Tryz.f80.body.isNone = false := by kernel_rfl
theorem nm81 : (Tryz.f81.name == "runtime.NumGoroutine") = false := by kernel_rfl
theorem bd81 : Tryz.f81.body.isNone = false := by kernel_rfl
theorem nm82 : (Tryz.f82.name == "runtime.NumGoroutine") = false := by kernel_rfl
theorem bd82 : Tryz.f82.body.isNone = false := by kernel_rfl
theorem nm83 : (Tryz.f83.name == "runtime.NumGoroutine") = false := by kernel_rfl
theorem bd83 : Tryz.f83.body.isNone = false := by kernel_rfl
theorem nm84 : (Tryz.f84.name == "runtime.NumGoroutine") = false := by kernel_rfl
theorem bd84 : Tryz.f84.body.isNone = false := by kernel_rfl
theorem nm85 : (Tryz.f85.name == "runtime.NumGoroutine") = false := by kernel_rfl
theorem bd85 : Tryz.f85.body.isNone = false := by kernel_rfl
theorem nm86 : (Tryz.f86.name == "runtime.NumGoroutine") = false := by kernel_rfl
theorem bd86 : Tryz.f86.body.isNone = false := by kernel_rfl
theorem nm87 : (Tryz.f87.name == "runtime.NumGoroutine") = false := by kernel_rfl
theorem bd87 : Tryz.f87.body.isNone = false := by kernel_rfl
theorem nm88 : (Tryz.f88.name == "runtime.NumGoroutine") = false := by kernel_rfl
theorem bd88 : Tryz.f88.body.isNone = false := by kernel_rfl
theorem nm89 : (Tryz.f89.name == "runtime.NumGoroutine") = false := by kernel_rfl
theorem bd89 : Tryz.f89.body.isNone = false := by kernel_rfl
theorem nm90 : (Tryz.f90.name == "runtime.NumGoroutine") = false := by kernel_rfl
theorem bd90 : Tryz.f90.body.isNone = false := by kernel_rfl
theorem nm91 : (Tryz.f91.name == "runtime.NumGoroutine") = false := by kernel_rfl
theorem bd91 : Tryz.f91.body.isNone = false := by kernel_rfl
theorem nm92 : (Tryz.f92.name == "runtime.NumGoroutine") = false := by kernel_rfl
theorem bd92 : Tryz.f92.body.isNone = false := by kernel_rfl
theorem nm93 : (Tryz.f93.name == "runtime.NumGoroutine") = false := by kernel_rfl
theorem bd93 : Tryz.f93.body.isNone = false := by kernel_rfl
theorem nm94 : (Tryz.f94.name == "runtime.NumGoroutine") = false := by kernel_rfl
theorem bd94 : Tryz.f94.body.isNone = false := by kernel_rfl
theorem nm95 : (Tryz.f95.name == "runtime.NumGoroutine") = false := by kernel_rfl
theorem bd95 : Tryz.f95.body.isNone = false := by kernel_rfl
theorem nm96 : (Tryz.f96.name == "runtime.NumGoroutine") = false := by kernel_rfl
theorem bd96 : Tryz.f96.body.isNone = false := by kernel_rfl
theorem nm97 : (Tryz.f97.name == "runtime.NumGoroutine") = false := by kernel_rfl
theorem bd97 : Tryz.f97.body.isNone = false := by kernel_rfl
theorem nm98 : (Tryz.f98.name == "runtime.NumGoroutine") = false := by kernel_rfl
theorem bd98 : Tryz.f98.body.isNone = false := by kernel_rfl
theorem nm99 : (Tryz.f99.name == "runtime.NumGoroutine") = false := by kernel_rfl
theorem bd99 : Tryz.f99.body.isNone = false := by kernel_rfl
theorem nm100 : (Tryz.f100.name == "runtime.NumGoroutine") = false := by kernel_rfl
theorem bd100 : Tryz.f100.body.isNone = false := by kernel_rfl
theorem nm101 : (Tryz.f101.name == "runtime.NumGoroutine") = false := by kernel_rfl
theorem bd101 : Tryz.f101.body.isNone = false := by kernel_rfl
theorem nm102 : (Tryz.f102.name == "runtime.NumGoroutine") = false := by kernel_rfl
theorem bd102 : Tryz.f102.body.isNone = false := by kernel_rfl
theorem nm103 : (Tryz.f103.name == "runtime.NumGoroutine") = false := by kernel_rfl
theorem bd103 : Tryz.f103.body.isNone = false := by kernel_rfl
theorem nm104 : (Tryz.f104.name == "runtime.NumGoroutine") = false := by kernel_rfl
theorem bd104 : Tryz.f104.body.isNone = false := by kernel_rfl
theorem nm105 : (Tryz.f105.name == "runtime.NumGoroutine") = false := by kernel_rfl
theorem bd105 : Tryz.f105.body.isNone = false := by kernel_rfl
theorem nm106 : (Tryz.f106.name == "runtime.NumGoroutine") = false := by kernel_rfl
theorem bd106 : Tryz.f106.body.isNone = false := by kernel_rfl
theorem nm107 : (Tryz.f107.name == "runtime.NumGoroutine") = false := by kernel_rfl
theorem bd107 : Tryz.f107.body.isNone = false := by kernel_rfl
theorem nm108 : (Tryz.f108.name == "runtime.NumGoroutine") = false := by kernel_rfl
theorem bd108 : Tryz.f108.body.isNone = false := by kernel_rfl
theorem nm109 : (Tryz.f109.name == "runtime.NumGoroutine") = false := by kernel_rfl
theorem bd109 : Tryz.f109.body.isNone = false := by kernel_rfl
theorem nm110 : (Tryz.f110.name == "runtime.NumGoroutine") = false := by kernel_rfl
theorem bd110 : Tryz.f110.body.isNone = false := by kernel_rfl
theorem nm111 : (Tryz.f111.name == "runtime.NumGoroutine") = false := by kernel_rfl
theorem bd111 : Tryz.f111.body.isNone = false := by kernel_rfl
theorem nm112 : (Tryz.f112.name == "runtime.NumGoroutine") = false := by kernel_rfl
theorem bd112 : Tryz.f112.body.isNone = false := by kernel_rfl
theorem nm113 : (Tryz.f113.name == "runtime.NumGoroutine") = false := by kernel_rfl
theorem bd113 : Tryz.f113.body.isNone = false := by kernel_rfl
theorem nm114 : (Tryz.f114.name == "runtime.NumGoroutine") = false := by kernel_rfl
theorem bd114 : Tryz.f114.body.isNone = false := by kernel_rfl
theorem nm115 : (Tryz.f115.name == "runtime.NumGoroutine") = false := by kernel_rfl
theorem bd115 : Tryz.f115.body.isNone = false := by kernel_rfl
theorem nm116 : (Tryz.f116.name == "runtime.NumGoroutine") = false := by kernel_rfl
theorem bd116 : Tryz.f116.body.isNone = false := by kernel_rfl
theorem nm117 : (Tryz.f117.name == "runtime.NumGoroutine") = false := by kernel_rfl
theorem bd117 : Tryz.f117.body.isNone = false := by kernel_rfl
theorem nm118 : (Tryz.f118.name == "runtime.NumGoroutine") = false := by kernel_rfl
theorem bd118 : Tryz.f118.body.isNone = false := by kernel_rfl
theorem nm119 : (Tryz.f119.name == "runtime.NumGoroutine") = false := by kernel_rfl
theorem bd119 : Tryz.f119.body.isNone = false := by kernel_rfl
theorem nm120 : (Tryz.f120.name == "runtime.NumGoroutine") = false := by kernel_rfl
theorem bd120 : Tryz.f120.body.isNone = false := by kernel_rfl
theorem nm121 : (Tryz.f121.name == "runtime.NumGoroutine") = false := by kernel_rfl
theorem bd121 : Tryz.f121.body.isNone = false := by kernel_rfl
theorem nm122 : (Tryz.f122.name == "runtime.NumGoroutine") = false := by kernel_rfl
theorem bd122 : Tryz.f122.body.isNone = false := by kernel_rfl
theorem nm123 : (Tryz.f123.name == "runtime.NumGoroutine") = false := by kernel_rfl
theorem bd123 : Tryz.f123.body.isNone = false := by kernel_rfl
theorem nm124 : (Tryz.f124.name == "runtime.NumGoroutine") = false := by kernel_rfl
theorem bd124 : Tryz.f124.body.isNone = false := by kernel_rfl
theorem nm125 : (Tryz.f125.name == "runtime.NumGoroutine") = false := by kernel_rfl
theorem bd125 : Tryz.f125.body.isNone = false := by kernel_rfl
theorem nm126 : (Tryz.f126.name == "runtime.NumGoroutine") = false := by kernel_rfl
theorem bd126 : Tryz.f126.body.isNone = false := by kernel_rfl
theorem nm127 : (Tryz.f127.name == "runtime.NumGoroutine") = false := by kernel_rfl
theorem bd127 : Tryz.f127.body.isNone = false := by kernel_rfl
theorem nm128 : (Tryz.f128.name == "runtime.NumGoroutine") = false := by kernel_rfl
theorem bd128 : Tryz.f128.body.isNone = false := by kernel_rfl
theorem nm129 : (Tryz.f129.name == "runtime.NumGoroutine") = false := by kernel_rfl
theorem bd129 : Tryz.f129.body.isNone = false := by kernel_rfl
theorem nm130 : (Tryz.f130.name == "runtime.NumGoroutine") = false := by kernel_rfl
theorem bd130 : Tryz.f130.body.isNone = false := by kernel_rfl
theorem nm131 : (Tryz.f131.name == "runtime.NumGoroutine") = false := by kernel_rfl
theorem bd131 : Tryz.f131.body.isNone = false := by kernel_rfl
theorem nm132 : (Tryz.f132.name == "runtime.NumGoroutine") = false := by kernel_rfl
theorem bd132 : Tryz.f132.body.isNone = false := by kernel_rfl
theorem nm133 : (Tryz.f133.name == "runtime.NumGoroutine") = false := by kernel_rfl
theorem bd133 : Tryz.f133.body.isNone = false := by kernel_rfl
theorem nm134 : (Tryz.f134.name == "runtime.NumGoroutine") = false := by kernel_rfl
theorem bd134 : Tryz.f134.body.isNone = false := by kernel_rfl
theorem nm135 : (Tryz.f135.name == "runtime.NumGoroutine") = false := by kernel_rfl
theorem bd135 : Tryz.f135.body.isNone = false := by kernel_rfl
theorem nm136 : (Tryz.f136.name == "runtime.NumGoroutine") = false := by kernel_rfl
theorem bd136 : Tryz.f136.body.isNone = false := by kernel_rfl
theorem nm137 : (Tryz.f137.name == "runtime.NumGoroutine") = false := by kernel_rfl
theorem bd137 : Tryz.f137.body.isNone = false := by kernel_rfl
theorem nm138 : (Tryz.f138.name == "runtime.NumGoroutine") = false := by kernel_rfl
theorem bd138 : Tryz.f138.body.isNone = false := by kernel_rfl
theorem nm139 : (Tryz.f139.name == "runtime.NumGoroutine") = false := by kernel_rfl
theorem bd139 : Tryz.f139.body.isNone = false := by kernel_rfl
theorem nm140 : (Tryz.f140.name == "runtime.NumGoroutine") = false := by kernel_rfl
theorem bd140 : Tryz.f140.body.isNone = false := by kernel_rfl
theorem nm141 : (Tryz.f141.name == "runtime.NumGoroutine") = false := by kernel_rfl
theorem bd141 : Tryz.f141.body.isNone = false := by kernel_rfl
theorem nm142 : (Tryz.f142.name == "runtime.NumGoroutine") = false := by kernel_rfl
theorem bd142 : Tryz.f142.body.isNone = false := by kernel_rfl
theorem nm143 : (Tryz.f143.name == "runtime.NumGoroutine") = false := by kernel_rfl
theorem bd143 : Tryz.f143.body.isNone = false := by kernel_rfl
theorem nm144 : (Tryz.f144.name == "runtime.NumGoroutine") = false := by kernel_rfl
theorem bd144 : Tryz.f144.body.isNone = false := by kernel_rfl
theorem nm145 : (Tryz.f145.name == "runtime.NumGoroutine") = false := by kernel_rfl
theorem bd145 : Tryz.f145.body.isNone = false := by kernel_rfl
theorem nm146 : (Tryz.f146.name == "runtime.NumGoroutine") = false := by kernel_rfl
theorem bd146 : Tryz.f146.body.isNone = false := by kernel_rfl
theorem nm147 : (Tryz.f147.name == "runtime.NumGoroutine") = false := by kernel_rfl
theorem bd147 : Tryz.f147.body.isNone = false := by kernel_rfl
theorem nm148 : (Tryz.f148.name == "runtime.NumGoroutine") = false := by kernel_rfl
theorem bd148 : Tryz.f148.body.isNone = false := by kernel_rfl
theorem nm149 : (Tryz.f149.name == "runtime.NumGoroutine") = false := by kernel_rfl
theorem bd149 : Tryz.f149.body.isNone = false := by kernel_rfl
theorem nm150 : (Tryz.f150.name == "runtime.NumGoroutine") = false := by kernel_rfl
theorem bd150 : Tryz.f150.body.isNone = false := by kernel_rfl
theorem nm151 : (Tryz.f151.name == "runtime.NumGoroutine") = false := by kernel_rfl
theorem bd151 : Tryz.f151.body.isNone = false := by kernel_rfl
theorem nm152 : (Tryz.f152.name == "runtime.NumGoroutine") = false := by kernel_rfl
theorem bd152 : Tryz.f152.body.isNone = false := by kernel_rfl
theorem nm153 : (Tryz.f153.name == "runtime.NumGoroutine") = false := by kernel_rfl
theorem bd153 : Tryz.f153.body.isNone = false := by kernel_rfl
theorem nm154 : (Tryz.f154.name == "runtime.NumGoroutine") = false := by kernel_rfl
theorem bd154 : Tryz.f154.body.isNone = false := by kernel_rfl
theorem nm155 : (Tryz.f155.name == "runtime.NumGoroutine") = false := by kernel_rfl
theorem bd155 : Tryz.f155.body.isNone = false := by kernel_rfl
theorem nm156 : (Tryz.f156.name == "runtime.NumGoroutine") = false := by kernel_rfl
theorem bd156 : Tryz.f156.body.isNone = false := by kernel_rfl
theorem nm157 : (Tryz.f157.name == "runtime.NumGoroutine") = false := by kernel_rfl
theorem bd157 : Tryz.f157.body.isNone = false := by kernel_rfl
theorem nm158 : (Tryz.f158.name == "runtime.NumGoroutine") = false := by kernel_rfl
theorem bd158 : Tryz.f158.body.isNone = false := by kernel_rfl
theorem nm159 : (Tryz.f159.name == "runtime.NumGoroutine") = false := by kernel_rfl
theorem bd159 : Tryz.f159.body.isNone = false := by kernel_rfl
theorem nm160 : (Tryz.f160.name == "runtime.NumGoroutine") = false := by kernel_rfl
theorem bd160 : Tryz.f160.body.isNone = false := by kernel_rfl
theorem nm161 : (Tryz.f161.name == "runtime.NumGoroutine") = false := by kernel_rfl
theorem bd161 : Tryz.f161.body.isNone = false := by kernel_rfl
theorem nm162 : (Tryz.f162.name == "runtime.NumGoroutine") = false := by kernel_rfl
theorem bd162 : Tryz.f162.body.isNone = false := by kernel_rfl
theorem nm163 : (Tryz.f163.name == "runtime.NumGoroutine") = false := by kernel_rfl
theorem bd163 : Tryz.f163.body.isNone = false := by kernel_rfl
theorem nm164 : (Tryz.f164.name == "runtime.NumGoroutine") = false := by kernel_rfl
theorem bd164 : Tryz.f164.body.isNone = false := by kernel_rfl
theorem nm165 : (Tryz.f165.name == "runtime.NumGoroutine") = false := by kernel_rfl
theorem bd165 : Tryz.f165.body.isNone = false := by kernel_rfl
theorem nm166 : (Tryz.f166.name == "runtime.NumGoroutine") = false := by kernel_rfl
theorem bd166 : Tryz.f166.body.isNone = false := by kernel_rfl
theorem nm167 : (Tryz.f167.name == "runtime.NumGoroutine") = false := by kernel_rfl
theorem bd167 : Tryz.f167.body.isNone = false := by kernel_rfl
theorem nm168 : (Tryz.f168.name == "runtime.NumGoroutine") = false := by kernel_rfl
theorem bd168 : Tryz.f168.body.isNone = false := by kernel_rfl
theorem nm169 : (Tryz.f169.name == "runtime.NumGoroutine") = false := by kernel_rfl
theorem bd169 : Tryz.f169.body.isNone = false := by kernel_rfl
theorem nm170 : (Tryz.f170.name == "runtime.NumGoroutine") = false := by kernel_rfl
theorem bd170 : Tryz.f170.body.isNone = false := by kernel_rfl
theorem nm171 : (Tryz.f171.name == "runtime.NumGoroutine") = false := by kernel_rfl
theorem bd171 : Tryz.f171.body.isNone = false := by kernel_rfl
theorem nm172 : (Tryz.f172.name == "runtime.NumGoroutine") = false := by kernel_rfl
theorem bd172 : Tryz.f172.body.isNone = false := by kernel_rfl
theorem nm173 : (Tryz.f173.name == "runtime.NumGoroutine") = false := by kernel_rfl
theorem bd173 : Tryz.f173.body.isNone = false := by kernel_rfl
theorem nm174 : (Tryz.f174.name == "runtime.NumGoroutine") = false := by kernel_rfl
theorem bd174 : Tryz.f174.body.isNone = false := by kernel_rfl
theorem nm175 : (Tryz.f175.name == "runtime.NumGoroutine") = false := by kernel_rfl
theorem bd175 : Tryz.f175.body.isNone = false := by kernel_rfl
theorem nm176 : (Tryz.f176.name == "runtime.NumGoroutine") = false := by kernel_rfl
theorem nm177 : (Tryz.f177.name == "runtime.NumGoroutine") = false := by kernel_rfl
theorem nm178 : (Tryz.f178.name == "runtime.NumGoroutine") = false := by kernel_rfl
theorem nm179 : (Tryz.f179.name == "runtime.NumGoroutine") = false := by kernel_rfl
theorem nm180 : (Tryz.f180.name == "runtime.NumGoroutine") = false := by kernel_rfl
theorem nm181 : (Tryz.f181.name == "runtime.NumGoroutine") = false := by kernel_rfl
theorem nm182 : (Tryz.f182.name == "runtime.NumGoroutine") = false := by kernel_rfl
theorem nm183 : (Tryz.f183.name == "runtime.NumGoroutine") = false := by kernel_rfl
theorem nm184 : (Tryz.f184.name == "runtime.NumGoroutine") = false := by kernel_rfl
theorem nm185 : (Tryz.f185.name == "runtime.NumGoroutine") = false := by kernel_rfl
theorem nm186 : (Tryz.f186.name == "runtime.NumGoroutine") = false := by kernel_rfl
theorem nm187 : (Tryz.f187.name == "runtime.NumGoroutine") = false := by kernel_rfl
theorem nm188 : (Tryz.f188.name == "runtime.NumGoroutine") = false := by kernel_rfl
theorem nm189 : (Tryz.f189.name == "runtime.NumGoroutine") = false := by kernel_rfl
theorem nm190 : (Tryz.f190.name == "runtime.NumGoroutine") = false := by kernel_rfl
theorem nm191 : (Tryz.f191.name == "runtime.NumGoroutine") = false := by kernel_rfl
theorem nm192 : (Tryz.f192.name == "runtime.NumGoroutine") = false := by kernel_rfl
theorem nm193 : (Tryz.f193.name == "runtime.NumGoroutine") = false := by kernel_rfl
theorem nm194 : (Tryz.f194.name == "runtime.NumGoroutine") = false := by kernel_rfl
theorem nm195 : (Tryz.f195.name == "runtime.NumGoroutine") = false := by kernel_rfl
theorem nm196 : (Tryz.f196.name == "runtime.NumGoroutine") = false := by kernel_rfl
theorem nm197 : (Tryz.f197.name == "runtime.NumGoroutine") = false := by kernel_rfl
theorem nm198 : (Tryz.f198.name == "runtime.NumGoroutine") = false := by kernel_rfl
theorem nm199 : (Tryz.f199.name == "runtime.NumGoroutine") = false := by kernel_rfl
theorem nm200 : (Tryz.f200.name == "runtime.NumGoroutine") = false := by kernel_rfl
theorem mixed : Tryz.prog.follows .mixedOrders = true := by kernel_rfl
end Go.Pse
