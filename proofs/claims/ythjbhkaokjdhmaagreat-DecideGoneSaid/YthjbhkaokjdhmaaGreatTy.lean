/- Closed facts on the types of the translation, by a program of this session (genty.py). -/
import Derived.Test.YthjbhkaokjdhmaaGreatProg
import Derived.Test.YthjbhkaokjdhmaaGreatMap
import Derived.Laws.StructEq
import Derived.KernelRfl
namespace Go.Pse
open Go.RowKit
open Go.Proofs

theorem ty3 : Ty Tryz.prog 3 1 8 false [.int .i64 0] := ⟨by kernel_rfl, by rw [Tryz.underlying3]; rfl⟩
theorem ty4 : Ty Tryz.prog 4 1 1 false [.bool false] := ⟨by kernel_rfl, by rw [Tryz.underlying4]; rfl⟩
theorem ty5 : Ty Tryz.prog 5 1 1 false [.int .u8 0] := ⟨by kernel_rfl, by rw [Tryz.underlying5]; rfl⟩
theorem ty9 : Ty Tryz.prog 9 1 16 false [.string ⟨#[]⟩] := ⟨by kernel_rfl, by rw [Tryz.underlying9]; rfl⟩
theorem ty21 : Ty Tryz.prog 21 1 4 false [.int .i32 0] := ⟨by kernel_rfl, by rw [Tryz.underlying21]; rfl⟩
theorem ty22 : Ty Tryz.prog 22 1 24 false [.slice none 0 0] := ⟨by kernel_rfl, by rw [Tryz.underlying22]; rfl⟩
theorem ty24 : Ty Tryz.prog 24 1 8 false [.pointer none] := ⟨by kernel_rfl, by rw [Tryz.underlying24]; rfl⟩
theorem ty27 : Ty Tryz.prog 27 5 40 true [.int .i64 0, .int .i64 0, .int .i64 0, .int .i64 0, .bool false] := ⟨by kernel_rfl, by rw [Tryz.underlying27]; rfl⟩
theorem ty28 : Ty Tryz.prog 28 1 8 false [.pointer none] := ⟨by kernel_rfl, by rw [Tryz.underlying28]; rfl⟩
theorem ty30 : Ty Tryz.prog 30 1 8 false [.pointer none] := ⟨by kernel_rfl, by rw [Tryz.underlying30]; rfl⟩
theorem ty32 : Ty Tryz.prog 32 1 8 false [.pointer none] := ⟨by kernel_rfl, by rw [Tryz.underlying32]; rfl⟩
theorem ty36 : Ty Tryz.prog 36 2 16 true [.int .i64 0, .int .i64 0] := ⟨by kernel_rfl, by rw [Tryz.underlying36]; rfl⟩
theorem ty37 : Ty Tryz.prog 37 1 4 false [.int .u32 0] := ⟨by kernel_rfl, by rw [Tryz.underlying37]; rfl⟩
theorem ty39 : Ty Tryz.prog 39 8 40 true [.int .i64 0, .int .i64 0, .int .u32 0, .int .u32 0, .int .u32 0, .int .u32 0, .int .u32 0, .int .u32 0] := ⟨by kernel_rfl, by rw [Tryz.underlying39]; rfl⟩
theorem ty41 : Ty Tryz.prog 41 13 72 true [.int .i64 0, .int .i64 0, .int .i64 0, .int .i64 0, .int .u32 0, .int .u32 0, .int .u32 0, .int .u32 0, .int .u32 0, .int .u32 0, .int .i64 0, .bool false, .bool false] := ⟨by kernel_rfl, by rw [Tryz.underlying41]; rfl⟩
theorem ty44 : Ty Tryz.prog 44 1 24 false [.slice none 0 0] := ⟨by kernel_rfl, by rw [Tryz.underlying44]; rfl⟩
theorem ty46 : Ty Tryz.prog 46 1 24 false [.slice none 0 0] := ⟨by kernel_rfl, by rw [Tryz.underlying46]; rfl⟩
theorem ty50 : Ty Tryz.prog 50 7 48 true [.int .i64 0, .int .i64 0, .int .u32 0, .int .i64 0, .int .i64 0, .int .u32 0, .bool false] := ⟨by kernel_rfl, by rw [Tryz.underlying50]; rfl⟩
theorem ty54 : Ty Tryz.prog 54 1 8 false [.pointer none] := ⟨by kernel_rfl, by rw [Tryz.underlying54]; rfl⟩
theorem ty58 : Ty Tryz.prog 58 1 24 false [.slice none 0 0] := ⟨by kernel_rfl, by rw [Tryz.underlying58]; rfl⟩
theorem ty59 : Ty Tryz.prog 59 1 8 false [.pointer none] := ⟨by kernel_rfl, by rw [Tryz.underlying59]; rfl⟩
theorem ty62 : Ty Tryz.prog 62 1 8 false [.int .u64 0] := ⟨by kernel_rfl, by rw [Tryz.underlying62]; rfl⟩
theorem ty65 : Ty Tryz.prog 65 1 24 false [.slice none 0 0] := ⟨by kernel_rfl, by rw [Tryz.underlying65]; rfl⟩
theorem ty68 : Ty Tryz.prog 68 1 8 false [.pointer none] := ⟨by kernel_rfl, by rw [Tryz.underlying68]; rfl⟩
theorem ty71 : Ty Tryz.prog 71 5 40 true [.int .i64 0, .int .i64 0, .int .u32 0, .int .i64 0, .bool false] := ⟨by kernel_rfl, by rw [Tryz.underlying71]; rfl⟩
theorem ty73 : Ty Tryz.prog 73 1 8 false [.pointer none] := ⟨by kernel_rfl, by rw [Tryz.underlying73]; rfl⟩
theorem ty77 : Ty Tryz.prog 77 3 24 true [.int .i64 0, .int .i64 0, .int .i64 0] := ⟨by kernel_rfl, by rw [Tryz.underlying77]; rfl⟩
theorem ty82 : Ty Tryz.prog 82 2 16 true [.int .i64 0, .int .i64 0] := ⟨by kernel_rfl, by rw [Tryz.underlying82]; rfl⟩
theorem ty86 : Ty Tryz.prog 86 1 8 false [.pointer none] := ⟨by kernel_rfl, by rw [Tryz.underlying86]; rfl⟩
theorem ty88 : Ty Tryz.prog 88 1 8 false [.map none] := ⟨by kernel_rfl, by rw [Tryz.underlying88]; rfl⟩
theorem ty89 : Ty Tryz.prog 89 1 8 false [.map none] := ⟨by kernel_rfl, by rw [Tryz.underlying89]; rfl⟩
theorem ty90 : Ty Tryz.prog 90 1 8 false [.map none] := ⟨by kernel_rfl, by rw [Tryz.underlying90]; rfl⟩
theorem ty91 : Ty Tryz.prog 91 1 8 false [.map none] := ⟨by kernel_rfl, by rw [Tryz.underlying91]; rfl⟩
theorem ty92 : Ty Tryz.prog 92 1 8 false [.map none] := ⟨by kernel_rfl, by rw [Tryz.underlying92]; rfl⟩
theorem ty93 : Ty Tryz.prog 93 1 8 false [.map none] := ⟨by kernel_rfl, by rw [Tryz.underlying93]; rfl⟩
theorem ty94 : Ty Tryz.prog 94 1 8 false [.map none] := ⟨by kernel_rfl, by rw [Tryz.underlying94]; rfl⟩
theorem ty95 : Ty Tryz.prog 95 1 8 false [.map none] := ⟨by kernel_rfl, by rw [Tryz.underlying95]; rfl⟩
theorem ty96 : Ty Tryz.prog 96 1 8 false [.map none] := ⟨by kernel_rfl, by rw [Tryz.underlying96]; rfl⟩
theorem ty98 : Ty Tryz.prog 98 1 8 true [.map none] := ⟨by kernel_rfl, by rw [Tryz.underlying98]; rfl⟩
theorem ty99 : Ty Tryz.prog 99 1 8 false [.map none] := ⟨by kernel_rfl, by rw [Tryz.underlying99]; rfl⟩
theorem ty101 : Ty Tryz.prog 101 1 8 true [.map none] := ⟨by kernel_rfl, by rw [Tryz.underlying101]; rfl⟩
theorem ty102 : Ty Tryz.prog 102 1 8 false [.map none] := ⟨by kernel_rfl, by rw [Tryz.underlying102]; rfl⟩
theorem ty104 : Ty Tryz.prog 104 1 8 true [.map none] := ⟨by kernel_rfl, by rw [Tryz.underlying104]; rfl⟩
theorem ty105 : Ty Tryz.prog 105 1 24 false [.slice none 0 0] := ⟨by kernel_rfl, by rw [Tryz.underlying105]; rfl⟩
theorem ty107 : Ty Tryz.prog 107 1 24 true [.slice none 0 0] := ⟨by kernel_rfl, by rw [Tryz.underlying107]; rfl⟩
theorem ty108 : Ty Tryz.prog 108 1 8 false [.map none] := ⟨by kernel_rfl, by rw [Tryz.underlying108]; rfl⟩
theorem ty110 : Ty Tryz.prog 110 1 8 true [.map none] := ⟨by kernel_rfl, by rw [Tryz.underlying110]; rfl⟩
theorem ty111 : Ty Tryz.prog 111 1 24 false [.slice none 0 0] := ⟨by kernel_rfl, by rw [Tryz.underlying111]; rfl⟩
theorem ty113 : Ty Tryz.prog 113 1 24 true [.slice none 0 0] := ⟨by kernel_rfl, by rw [Tryz.underlying113]; rfl⟩
theorem ty115 : Ty Tryz.prog 115 1 24 true [.slice none 0 0] := ⟨by kernel_rfl, by rw [Tryz.underlying115]; rfl⟩
theorem ty117 : Ty Tryz.prog 117 23 232 true [.int .i64 0, .int .i64 0, .int .i64 0, .int .i64 0, .bool false, .pointer none, .map none, .map none, .map none, .slice none 0 0, .map none, .slice none 0 0, .slice none 0 0, .map none, .map none, .map none, .map none, .map none, .map none, .map none, .map none, .map none, .int .u64 0] := ⟨by kernel_rfl, by rw [Tryz.underlying117]; rfl⟩
theorem ty118 : Ty Tryz.prog 118 1 24 false [.slice none 0 0] := ⟨by kernel_rfl, by rw [Tryz.underlying118]; rfl⟩
theorem ty119 : Ty Tryz.prog 119 1 24 false [.slice none 0 0] := ⟨by kernel_rfl, by rw [Tryz.underlying119]; rfl⟩
theorem ty121 : Ty Tryz.prog 121 2 48 true [.slice none 0 0, .slice none 0 0] := ⟨by kernel_rfl, by rw [Tryz.underlying121]; rfl⟩
theorem ty122 : Ty Tryz.prog 122 1 8 false [.map none] := ⟨by kernel_rfl, by rw [Tryz.underlying122]; rfl⟩
theorem ty124 : Ty Tryz.prog 124 2 32 true [.slice none 0 0, .map none] := ⟨by kernel_rfl, by rw [Tryz.underlying124]; rfl⟩
theorem ty126 : Ty Tryz.prog 126 3 40 true [.int .u32 0, .slice none 0 0, .map none] := ⟨by kernel_rfl, by rw [Tryz.underlying126]; rfl⟩
theorem ty136 : Ty Tryz.prog 136 1 24 false [.slice none 0 0] := ⟨by kernel_rfl, by rw [Tryz.underlying136]; rfl⟩
theorem ty138 : Ty Tryz.prog 138 8 72 true [.pointer none, .int .i64 0, .int .i64 0, .int .i64 0, .int .i64 0, .int .u32 0, .int .u32 0, .slice none 0 0] := ⟨by kernel_rfl, by rw [Tryz.underlying138]; rfl⟩
theorem ty140 : Ty Tryz.prog 140 3 24 true [.int .u64 0, .int .i64 0, .int .i64 0] := ⟨by kernel_rfl, by rw [Tryz.underlying140]; rfl⟩
theorem ty150 : Ty Tryz.prog 150 3 24 true [.int .i64 0, .int .i64 0, .bool false] := ⟨by kernel_rfl, by rw [Tryz.underlying150]; rfl⟩
theorem ty151 : Ty Tryz.prog 151 1 24 false [.slice none 0 0] := ⟨by kernel_rfl, by rw [Tryz.underlying151]; rfl⟩
theorem ty153 : Ty Tryz.prog 153 1 24 false [.slice none 0 0] := ⟨by kernel_rfl, by rw [Tryz.underlying153]; rfl⟩
theorem ty155 : Ty Tryz.prog 155 1 24 true [.slice none 0 0] := ⟨by kernel_rfl, by rw [Tryz.underlying155]; rfl⟩
theorem ty156 : Ty Tryz.prog 156 1 24 false [.slice none 0 0] := ⟨by kernel_rfl, by rw [Tryz.underlying156]; rfl⟩
theorem ty158 : Ty Tryz.prog 158 5 40 true [.int .i64 0, .int .i64 0, .int .i64 0, .int .i64 0, .int .i64 0] := ⟨by kernel_rfl, by rw [Tryz.underlying158]; rfl⟩
theorem ty160 : Ty Tryz.prog 160 8 64 true [.int .i64 0, .int .i64 0, .int .i64 0, .int .i64 0, .int .i64 0, .int .i64 0, .int .i64 0, .int .i64 0] := ⟨by kernel_rfl, by rw [Tryz.underlying160]; rfl⟩
theorem ty161 : Ty Tryz.prog 161 1 24 false [.slice none 0 0] := ⟨by kernel_rfl, by rw [Tryz.underlying161]; rfl⟩
theorem ty163 : Ty Tryz.prog 163 2 16 true [.int .i64 0, .int .u32 0] := ⟨by kernel_rfl, by rw [Tryz.underlying163]; rfl⟩
theorem ty166 : Ty Tryz.prog 166 2 16 true [.int .i64 0, .int .i64 0] := ⟨by kernel_rfl, by rw [Tryz.underlying166]; rfl⟩
theorem ty169 : Ty Tryz.prog 169 2 16 true [.int .i64 0, .int .i64 0] := ⟨by kernel_rfl, by rw [Tryz.underlying169]; rfl⟩
theorem ty171 : Ty Tryz.prog 171 2 16 true [.int .i64 0, .int .i64 0] := ⟨by kernel_rfl, by rw [Tryz.underlying171]; rfl⟩
theorem ty175 : Ty Tryz.prog 175 4 16 true [.int .u32 0, .int .i32 0, .int .u32 0, .int .u32 0] := ⟨by kernel_rfl, by rw [Tryz.underlying175]; rfl⟩
theorem ty183 : Ty Tryz.prog 183 1 8 false [.int .u64 0] := ⟨by kernel_rfl, by rw [Tryz.underlying183]; rfl⟩
theorem ty185 : Ty Tryz.prog 185 1 8 false [.pointer none] := ⟨by kernel_rfl, by rw [Tryz.underlying185]; rfl⟩
theorem ty198 : Ty Tryz.prog 198 1 8 false [.pointer none] := ⟨by kernel_rfl, by rw [Tryz.underlying198]; rfl⟩
theorem ty203 : Ty Tryz.prog 203 7 56 true [.int .i64 0, .int .i64 0, .int .i64 0, .int .i64 0, .int .i64 0, .int .i64 0, .int .i64 0] := ⟨by kernel_rfl, by rw [Tryz.underlying203]; rfl⟩
theorem ty204 : Ty Tryz.prog 204 1 8 false [.pointer none] := ⟨by kernel_rfl, by rw [Tryz.underlying204]; rfl⟩
theorem ty206 : Ty Tryz.prog 206 1 8 false [.pointer none] := ⟨by kernel_rfl, by rw [Tryz.underlying206]; rfl⟩
theorem ty208 : Ty Tryz.prog 208 2 16 true [.int .i64 0, .int .i64 0] := ⟨by kernel_rfl, by rw [Tryz.underlying208]; rfl⟩
theorem ty214 : Ty Tryz.prog 214 1 8 false [.int .i64 0] := ⟨by kernel_rfl, by rw [Tryz.underlying214]; rfl⟩
theorem ty244 : Ty Tryz.prog 244 1 8 false [.int .u64 0] := ⟨by kernel_rfl, by rw [Tryz.underlying244]; rfl⟩
theorem ty248 : Ty Tryz.prog 248 1 8 false [.pointer none] := ⟨by kernel_rfl, by rw [Tryz.underlying248]; rfl⟩
theorem ty295 : Ty Tryz.prog 295 2 16 true [.int .i64 0, .int .i64 0] := ⟨by kernel_rfl, by rw [Tryz.underlying295]; rfl⟩
theorem fa27_0 (a : Addr) (w : World) : (Instr.fieldAt 27 (.pointer (some a)) 0).run Tryz.prog w = .ok (.pointer (some (a.add 0))) w := by
  simp [Instr.fieldAt, run_underlying Tryz.underlying27, Instr.sureAddr, fieldPlace, ty3.sizeOf]
theorem fa27_1 (a : Addr) (w : World) : (Instr.fieldAt 27 (.pointer (some a)) 1).run Tryz.prog w = .ok (.pointer (some (a.add 1))) w := by
  simp [Instr.fieldAt, run_underlying Tryz.underlying27, Instr.sureAddr, fieldPlace, ty3.sizeOf]
theorem fa27_2 (a : Addr) (w : World) : (Instr.fieldAt 27 (.pointer (some a)) 2).run Tryz.prog w = .ok (.pointer (some (a.add 2))) w := by
  simp [Instr.fieldAt, run_underlying Tryz.underlying27, Instr.sureAddr, fieldPlace, ty3.sizeOf]
theorem fa27_3 (a : Addr) (w : World) : (Instr.fieldAt 27 (.pointer (some a)) 3).run Tryz.prog w = .ok (.pointer (some (a.add 3))) w := by
  simp [Instr.fieldAt, run_underlying Tryz.underlying27, Instr.sureAddr, fieldPlace, ty3.sizeOf]
theorem fa27_4 (a : Addr) (w : World) : (Instr.fieldAt 27 (.pointer (some a)) 4).run Tryz.prog w = .ok (.pointer (some (a.add 4))) w := by
  simp [Instr.fieldAt, run_underlying Tryz.underlying27, Instr.sureAddr, fieldPlace, ty4.sizeOf]
theorem fa36_0 (a : Addr) (w : World) : (Instr.fieldAt 36 (.pointer (some a)) 0).run Tryz.prog w = .ok (.pointer (some (a.add 0))) w := by
  simp [Instr.fieldAt, run_underlying Tryz.underlying36, Instr.sureAddr, fieldPlace, ty3.sizeOf]
theorem fa36_1 (a : Addr) (w : World) : (Instr.fieldAt 36 (.pointer (some a)) 1).run Tryz.prog w = .ok (.pointer (some (a.add 1))) w := by
  simp [Instr.fieldAt, run_underlying Tryz.underlying36, Instr.sureAddr, fieldPlace, ty3.sizeOf]
theorem fa39_0 (a : Addr) (w : World) : (Instr.fieldAt 39 (.pointer (some a)) 0).run Tryz.prog w = .ok (.pointer (some (a.add 0))) w := by
  simp [Instr.fieldAt, run_underlying Tryz.underlying39, Instr.sureAddr, fieldPlace, ty3.sizeOf]
theorem fa39_2 (a : Addr) (w : World) : (Instr.fieldAt 39 (.pointer (some a)) 2).run Tryz.prog w = .ok (.pointer (some (a.add 2))) w := by
  simp [Instr.fieldAt, run_underlying Tryz.underlying39, Instr.sureAddr, fieldPlace, ty37.sizeOf]
theorem fa41_0 (a : Addr) (w : World) : (Instr.fieldAt 41 (.pointer (some a)) 0).run Tryz.prog w = .ok (.pointer (some (a.add 0))) w := by
  simp [Instr.fieldAt, run_underlying Tryz.underlying41, Instr.sureAddr, fieldPlace, ty36.sizeOf]
theorem fa41_1 (a : Addr) (w : World) : (Instr.fieldAt 41 (.pointer (some a)) 1).run Tryz.prog w = .ok (.pointer (some (a.add 2))) w := by
  simp [Instr.fieldAt, run_underlying Tryz.underlying41, Instr.sureAddr, fieldPlace, ty39.sizeOf]
theorem fa41_2 (a : Addr) (w : World) : (Instr.fieldAt 41 (.pointer (some a)) 2).run Tryz.prog w = .ok (.pointer (some (a.add 10))) w := by
  simp [Instr.fieldAt, run_underlying Tryz.underlying41, Instr.sureAddr, fieldPlace, ty3.sizeOf]
theorem fa41_3 (a : Addr) (w : World) : (Instr.fieldAt 41 (.pointer (some a)) 3).run Tryz.prog w = .ok (.pointer (some (a.add 11))) w := by
  simp [Instr.fieldAt, run_underlying Tryz.underlying41, Instr.sureAddr, fieldPlace, ty4.sizeOf]
theorem fa50_0 (a : Addr) (w : World) : (Instr.fieldAt 50 (.pointer (some a)) 0).run Tryz.prog w = .ok (.pointer (some (a.add 0))) w := by
  simp [Instr.fieldAt, run_underlying Tryz.underlying50, Instr.sureAddr, fieldPlace, ty36.sizeOf]
theorem fa50_1 (a : Addr) (w : World) : (Instr.fieldAt 50 (.pointer (some a)) 1).run Tryz.prog w = .ok (.pointer (some (a.add 2))) w := by
  simp [Instr.fieldAt, run_underlying Tryz.underlying50, Instr.sureAddr, fieldPlace, ty37.sizeOf]
theorem fa50_2 (a : Addr) (w : World) : (Instr.fieldAt 50 (.pointer (some a)) 2).run Tryz.prog w = .ok (.pointer (some (a.add 3))) w := by
  simp [Instr.fieldAt, run_underlying Tryz.underlying50, Instr.sureAddr, fieldPlace, ty3.sizeOf]
theorem fa50_3 (a : Addr) (w : World) : (Instr.fieldAt 50 (.pointer (some a)) 3).run Tryz.prog w = .ok (.pointer (some (a.add 4))) w := by
  simp [Instr.fieldAt, run_underlying Tryz.underlying50, Instr.sureAddr, fieldPlace, ty3.sizeOf]
theorem fa50_4 (a : Addr) (w : World) : (Instr.fieldAt 50 (.pointer (some a)) 4).run Tryz.prog w = .ok (.pointer (some (a.add 5))) w := by
  simp [Instr.fieldAt, run_underlying Tryz.underlying50, Instr.sureAddr, fieldPlace, ty37.sizeOf]
theorem fa50_5 (a : Addr) (w : World) : (Instr.fieldAt 50 (.pointer (some a)) 5).run Tryz.prog w = .ok (.pointer (some (a.add 6))) w := by
  simp [Instr.fieldAt, run_underlying Tryz.underlying50, Instr.sureAddr, fieldPlace, ty4.sizeOf]
theorem fa71_0 (a : Addr) (w : World) : (Instr.fieldAt 71 (.pointer (some a)) 0).run Tryz.prog w = .ok (.pointer (some (a.add 0))) w := by
  simp [Instr.fieldAt, run_underlying Tryz.underlying71, Instr.sureAddr, fieldPlace, ty36.sizeOf]
theorem fa77_0 (a : Addr) (w : World) : (Instr.fieldAt 77 (.pointer (some a)) 0).run Tryz.prog w = .ok (.pointer (some (a.add 0))) w := by
  simp [Instr.fieldAt, run_underlying Tryz.underlying77, Instr.sureAddr, fieldPlace, ty36.sizeOf]
theorem fa82_0 (a : Addr) (w : World) : (Instr.fieldAt 82 (.pointer (some a)) 0).run Tryz.prog w = .ok (.pointer (some (a.add 0))) w := by
  simp [Instr.fieldAt, run_underlying Tryz.underlying82, Instr.sureAddr, fieldPlace, ty3.sizeOf]
theorem fa82_1 (a : Addr) (w : World) : (Instr.fieldAt 82 (.pointer (some a)) 1).run Tryz.prog w = .ok (.pointer (some (a.add 1))) w := by
  simp [Instr.fieldAt, run_underlying Tryz.underlying82, Instr.sureAddr, fieldPlace, ty3.sizeOf]
theorem fa98_0 (a : Addr) (w : World) : (Instr.fieldAt 98 (.pointer (some a)) 0).run Tryz.prog w = .ok (.pointer (some (a.add 0))) w := by
  simp [Instr.fieldAt, run_underlying Tryz.underlying98, Instr.sureAddr, fieldPlace, ty96.sizeOf]
theorem fa104_0 (a : Addr) (w : World) : (Instr.fieldAt 104 (.pointer (some a)) 0).run Tryz.prog w = .ok (.pointer (some (a.add 0))) w := by
  simp [Instr.fieldAt, run_underlying Tryz.underlying104, Instr.sureAddr, fieldPlace, ty102.sizeOf]
theorem fa107_0 (a : Addr) (w : World) : (Instr.fieldAt 107 (.pointer (some a)) 0).run Tryz.prog w = .ok (.pointer (some (a.add 0))) w := by
  simp [Instr.fieldAt, run_underlying Tryz.underlying107, Instr.sureAddr, fieldPlace, ty105.sizeOf]
theorem fa110_0 (a : Addr) (w : World) : (Instr.fieldAt 110 (.pointer (some a)) 0).run Tryz.prog w = .ok (.pointer (some (a.add 0))) w := by
  simp [Instr.fieldAt, run_underlying Tryz.underlying110, Instr.sureAddr, fieldPlace, ty108.sizeOf]
theorem fa113_0 (a : Addr) (w : World) : (Instr.fieldAt 113 (.pointer (some a)) 0).run Tryz.prog w = .ok (.pointer (some (a.add 0))) w := by
  simp [Instr.fieldAt, run_underlying Tryz.underlying113, Instr.sureAddr, fieldPlace, ty111.sizeOf]
theorem fa115_0 (a : Addr) (w : World) : (Instr.fieldAt 115 (.pointer (some a)) 0).run Tryz.prog w = .ok (.pointer (some (a.add 0))) w := by
  simp [Instr.fieldAt, run_underlying Tryz.underlying115, Instr.sureAddr, fieldPlace, ty44.sizeOf]
theorem fa117_0 (a : Addr) (w : World) : (Instr.fieldAt 117 (.pointer (some a)) 0).run Tryz.prog w = .ok (.pointer (some (a.add 0))) w := by
  simp [Instr.fieldAt, run_underlying Tryz.underlying117, Instr.sureAddr, fieldPlace, ty27.sizeOf]
theorem fa117_1 (a : Addr) (w : World) : (Instr.fieldAt 117 (.pointer (some a)) 1).run Tryz.prog w = .ok (.pointer (some (a.add 5))) w := by
  simp [Instr.fieldAt, run_underlying Tryz.underlying117, Instr.sureAddr, fieldPlace, ty86.sizeOf]
theorem fa117_2 (a : Addr) (w : World) : (Instr.fieldAt 117 (.pointer (some a)) 2).run Tryz.prog w = .ok (.pointer (some (a.add 6))) w := by
  simp [Instr.fieldAt, run_underlying Tryz.underlying117, Instr.sureAddr, fieldPlace, ty98.sizeOf]
theorem fa117_4 (a : Addr) (w : World) : (Instr.fieldAt 117 (.pointer (some a)) 4).run Tryz.prog w = .ok (.pointer (some (a.add 8))) w := by
  simp [Instr.fieldAt, run_underlying Tryz.underlying117, Instr.sureAddr, fieldPlace, ty104.sizeOf]
theorem fa117_5 (a : Addr) (w : World) : (Instr.fieldAt 117 (.pointer (some a)) 5).run Tryz.prog w = .ok (.pointer (some (a.add 9))) w := by
  simp [Instr.fieldAt, run_underlying Tryz.underlying117, Instr.sureAddr, fieldPlace, ty107.sizeOf]
theorem fa117_6 (a : Addr) (w : World) : (Instr.fieldAt 117 (.pointer (some a)) 6).run Tryz.prog w = .ok (.pointer (some (a.add 10))) w := by
  simp [Instr.fieldAt, run_underlying Tryz.underlying117, Instr.sureAddr, fieldPlace, ty110.sizeOf]
theorem fa117_7 (a : Addr) (w : World) : (Instr.fieldAt 117 (.pointer (some a)) 7).run Tryz.prog w = .ok (.pointer (some (a.add 11))) w := by
  simp [Instr.fieldAt, run_underlying Tryz.underlying117, Instr.sureAddr, fieldPlace, ty113.sizeOf]
theorem fa117_8 (a : Addr) (w : World) : (Instr.fieldAt 117 (.pointer (some a)) 8).run Tryz.prog w = .ok (.pointer (some (a.add 12))) w := by
  simp [Instr.fieldAt, run_underlying Tryz.underlying117, Instr.sureAddr, fieldPlace, ty115.sizeOf]
theorem fa117_9 (a : Addr) (w : World) : (Instr.fieldAt 117 (.pointer (some a)) 9).run Tryz.prog w = .ok (.pointer (some (a.add 13))) w := by
  simp [Instr.fieldAt, run_underlying Tryz.underlying117, Instr.sureAddr, fieldPlace, ty88.sizeOf]
theorem fa117_10 (a : Addr) (w : World) : (Instr.fieldAt 117 (.pointer (some a)) 10).run Tryz.prog w = .ok (.pointer (some (a.add 14))) w := by
  simp [Instr.fieldAt, run_underlying Tryz.underlying117, Instr.sureAddr, fieldPlace, ty89.sizeOf]
theorem fa117_11 (a : Addr) (w : World) : (Instr.fieldAt 117 (.pointer (some a)) 11).run Tryz.prog w = .ok (.pointer (some (a.add 15))) w := by
  simp [Instr.fieldAt, run_underlying Tryz.underlying117, Instr.sureAddr, fieldPlace, ty90.sizeOf]
theorem fa117_12 (a : Addr) (w : World) : (Instr.fieldAt 117 (.pointer (some a)) 12).run Tryz.prog w = .ok (.pointer (some (a.add 16))) w := by
  simp [Instr.fieldAt, run_underlying Tryz.underlying117, Instr.sureAddr, fieldPlace, ty91.sizeOf]
theorem fa117_13 (a : Addr) (w : World) : (Instr.fieldAt 117 (.pointer (some a)) 13).run Tryz.prog w = .ok (.pointer (some (a.add 17))) w := by
  simp [Instr.fieldAt, run_underlying Tryz.underlying117, Instr.sureAddr, fieldPlace, ty92.sizeOf]
theorem fa117_14 (a : Addr) (w : World) : (Instr.fieldAt 117 (.pointer (some a)) 14).run Tryz.prog w = .ok (.pointer (some (a.add 18))) w := by
  simp [Instr.fieldAt, run_underlying Tryz.underlying117, Instr.sureAddr, fieldPlace, ty93.sizeOf]
theorem fa117_16 (a : Addr) (w : World) : (Instr.fieldAt 117 (.pointer (some a)) 16).run Tryz.prog w = .ok (.pointer (some (a.add 20))) w := by
  simp [Instr.fieldAt, run_underlying Tryz.underlying117, Instr.sureAddr, fieldPlace, ty95.sizeOf]
theorem fa117_17 (a : Addr) (w : World) : (Instr.fieldAt 117 (.pointer (some a)) 17).run Tryz.prog w = .ok (.pointer (some (a.add 21))) w := by
  simp [Instr.fieldAt, run_underlying Tryz.underlying117, Instr.sureAddr, fieldPlace, ty94.sizeOf]
theorem fa121_0 (a : Addr) (w : World) : (Instr.fieldAt 121 (.pointer (some a)) 0).run Tryz.prog w = .ok (.pointer (some (a.add 0))) w := by
  simp [Instr.fieldAt, run_underlying Tryz.underlying121, Instr.sureAddr, fieldPlace, ty118.sizeOf]
theorem fa121_1 (a : Addr) (w : World) : (Instr.fieldAt 121 (.pointer (some a)) 1).run Tryz.prog w = .ok (.pointer (some (a.add 1))) w := by
  simp [Instr.fieldAt, run_underlying Tryz.underlying121, Instr.sureAddr, fieldPlace, ty119.sizeOf]
theorem fa124_0 (a : Addr) (w : World) : (Instr.fieldAt 124 (.pointer (some a)) 0).run Tryz.prog w = .ok (.pointer (some (a.add 0))) w := by
  simp [Instr.fieldAt, run_underlying Tryz.underlying124, Instr.sureAddr, fieldPlace, ty65.sizeOf]
theorem fa124_1 (a : Addr) (w : World) : (Instr.fieldAt 124 (.pointer (some a)) 1).run Tryz.prog w = .ok (.pointer (some (a.add 1))) w := by
  simp [Instr.fieldAt, run_underlying Tryz.underlying124, Instr.sureAddr, fieldPlace, ty122.sizeOf]
theorem fa126_0 (a : Addr) (w : World) : (Instr.fieldAt 126 (.pointer (some a)) 0).run Tryz.prog w = .ok (.pointer (some (a.add 0))) w := by
  simp [Instr.fieldAt, run_underlying Tryz.underlying126, Instr.sureAddr, fieldPlace, ty37.sizeOf]
theorem fa126_1 (a : Addr) (w : World) : (Instr.fieldAt 126 (.pointer (some a)) 1).run Tryz.prog w = .ok (.pointer (some (a.add 1))) w := by
  simp [Instr.fieldAt, run_underlying Tryz.underlying126, Instr.sureAddr, fieldPlace, ty124.sizeOf]
theorem fa138_0 (a : Addr) (w : World) : (Instr.fieldAt 138 (.pointer (some a)) 0).run Tryz.prog w = .ok (.pointer (some (a.add 0))) w := by
  simp [Instr.fieldAt, run_underlying Tryz.underlying138, Instr.sureAddr, fieldPlace, ty86.sizeOf]
theorem fa138_1 (a : Addr) (w : World) : (Instr.fieldAt 138 (.pointer (some a)) 1).run Tryz.prog w = .ok (.pointer (some (a.add 1))) w := by
  simp [Instr.fieldAt, run_underlying Tryz.underlying138, Instr.sureAddr, fieldPlace, ty3.sizeOf]
theorem fa138_2 (a : Addr) (w : World) : (Instr.fieldAt 138 (.pointer (some a)) 2).run Tryz.prog w = .ok (.pointer (some (a.add 2))) w := by
  simp [Instr.fieldAt, run_underlying Tryz.underlying138, Instr.sureAddr, fieldPlace, ty3.sizeOf]
theorem fa138_4 (a : Addr) (w : World) : (Instr.fieldAt 138 (.pointer (some a)) 4).run Tryz.prog w = .ok (.pointer (some (a.add 4))) w := by
  simp [Instr.fieldAt, run_underlying Tryz.underlying138, Instr.sureAddr, fieldPlace, ty3.sizeOf]
theorem fa138_6 (a : Addr) (w : World) : (Instr.fieldAt 138 (.pointer (some a)) 6).run Tryz.prog w = .ok (.pointer (some (a.add 6))) w := by
  simp [Instr.fieldAt, run_underlying Tryz.underlying138, Instr.sureAddr, fieldPlace, ty37.sizeOf]
theorem fa138_7 (a : Addr) (w : World) : (Instr.fieldAt 138 (.pointer (some a)) 7).run Tryz.prog w = .ok (.pointer (some (a.add 7))) w := by
  simp [Instr.fieldAt, run_underlying Tryz.underlying138, Instr.sureAddr, fieldPlace, ty136.sizeOf]
theorem fa140_0 (a : Addr) (w : World) : (Instr.fieldAt 140 (.pointer (some a)) 0).run Tryz.prog w = .ok (.pointer (some (a.add 0))) w := by
  simp [Instr.fieldAt, run_underlying Tryz.underlying140, Instr.sureAddr, fieldPlace, ty62.sizeOf]
theorem fa140_1 (a : Addr) (w : World) : (Instr.fieldAt 140 (.pointer (some a)) 1).run Tryz.prog w = .ok (.pointer (some (a.add 1))) w := by
  simp [Instr.fieldAt, run_underlying Tryz.underlying140, Instr.sureAddr, fieldPlace, ty36.sizeOf]
theorem fa150_0 (a : Addr) (w : World) : (Instr.fieldAt 150 (.pointer (some a)) 0).run Tryz.prog w = .ok (.pointer (some (a.add 0))) w := by
  simp [Instr.fieldAt, run_underlying Tryz.underlying150, Instr.sureAddr, fieldPlace, ty36.sizeOf]
theorem fa150_1 (a : Addr) (w : World) : (Instr.fieldAt 150 (.pointer (some a)) 1).run Tryz.prog w = .ok (.pointer (some (a.add 2))) w := by
  simp [Instr.fieldAt, run_underlying Tryz.underlying150, Instr.sureAddr, fieldPlace, ty4.sizeOf]
theorem fa155_0 (a : Addr) (w : World) : (Instr.fieldAt 155 (.pointer (some a)) 0).run Tryz.prog w = .ok (.pointer (some (a.add 0))) w := by
  simp [Instr.fieldAt, run_underlying Tryz.underlying155, Instr.sureAddr, fieldPlace, ty153.sizeOf]
theorem fa158_0 (a : Addr) (w : World) : (Instr.fieldAt 158 (.pointer (some a)) 0).run Tryz.prog w = .ok (.pointer (some (a.add 0))) w := by
  simp [Instr.fieldAt, run_underlying Tryz.underlying158, Instr.sureAddr, fieldPlace, ty3.sizeOf]
theorem fa158_1 (a : Addr) (w : World) : (Instr.fieldAt 158 (.pointer (some a)) 1).run Tryz.prog w = .ok (.pointer (some (a.add 1))) w := by
  simp [Instr.fieldAt, run_underlying Tryz.underlying158, Instr.sureAddr, fieldPlace, ty3.sizeOf]
theorem fa158_2 (a : Addr) (w : World) : (Instr.fieldAt 158 (.pointer (some a)) 2).run Tryz.prog w = .ok (.pointer (some (a.add 2))) w := by
  simp [Instr.fieldAt, run_underlying Tryz.underlying158, Instr.sureAddr, fieldPlace, ty3.sizeOf]
theorem fa158_3 (a : Addr) (w : World) : (Instr.fieldAt 158 (.pointer (some a)) 3).run Tryz.prog w = .ok (.pointer (some (a.add 3))) w := by
  simp [Instr.fieldAt, run_underlying Tryz.underlying158, Instr.sureAddr, fieldPlace, ty3.sizeOf]
theorem fa158_4 (a : Addr) (w : World) : (Instr.fieldAt 158 (.pointer (some a)) 4).run Tryz.prog w = .ok (.pointer (some (a.add 4))) w := by
  simp [Instr.fieldAt, run_underlying Tryz.underlying158, Instr.sureAddr, fieldPlace, ty3.sizeOf]
theorem fa160_0 (a : Addr) (w : World) : (Instr.fieldAt 160 (.pointer (some a)) 0).run Tryz.prog w = .ok (.pointer (some (a.add 0))) w := by
  simp [Instr.fieldAt, run_underlying Tryz.underlying160, Instr.sureAddr, fieldPlace, ty3.sizeOf]
theorem fa160_1 (a : Addr) (w : World) : (Instr.fieldAt 160 (.pointer (some a)) 1).run Tryz.prog w = .ok (.pointer (some (a.add 1))) w := by
  simp [Instr.fieldAt, run_underlying Tryz.underlying160, Instr.sureAddr, fieldPlace, ty3.sizeOf]
theorem fa160_2 (a : Addr) (w : World) : (Instr.fieldAt 160 (.pointer (some a)) 2).run Tryz.prog w = .ok (.pointer (some (a.add 2))) w := by
  simp [Instr.fieldAt, run_underlying Tryz.underlying160, Instr.sureAddr, fieldPlace, ty3.sizeOf]
theorem fa163_0 (a : Addr) (w : World) : (Instr.fieldAt 163 (.pointer (some a)) 0).run Tryz.prog w = .ok (.pointer (some (a.add 0))) w := by
  simp [Instr.fieldAt, run_underlying Tryz.underlying163, Instr.sureAddr, fieldPlace, ty3.sizeOf]
theorem fa163_1 (a : Addr) (w : World) : (Instr.fieldAt 163 (.pointer (some a)) 1).run Tryz.prog w = .ok (.pointer (some (a.add 1))) w := by
  simp [Instr.fieldAt, run_underlying Tryz.underlying163, Instr.sureAddr, fieldPlace, ty37.sizeOf]
theorem fa166_0 (a : Addr) (w : World) : (Instr.fieldAt 166 (.pointer (some a)) 0).run Tryz.prog w = .ok (.pointer (some (a.add 0))) w := by
  simp [Instr.fieldAt, run_underlying Tryz.underlying166, Instr.sureAddr, fieldPlace, ty3.sizeOf]
theorem fa166_1 (a : Addr) (w : World) : (Instr.fieldAt 166 (.pointer (some a)) 1).run Tryz.prog w = .ok (.pointer (some (a.add 1))) w := by
  simp [Instr.fieldAt, run_underlying Tryz.underlying166, Instr.sureAddr, fieldPlace, ty3.sizeOf]
theorem fa169_0 (a : Addr) (w : World) : (Instr.fieldAt 169 (.pointer (some a)) 0).run Tryz.prog w = .ok (.pointer (some (a.add 0))) w := by
  simp [Instr.fieldAt, run_underlying Tryz.underlying169, Instr.sureAddr, fieldPlace, ty3.sizeOf]
theorem fa169_1 (a : Addr) (w : World) : (Instr.fieldAt 169 (.pointer (some a)) 1).run Tryz.prog w = .ok (.pointer (some (a.add 1))) w := by
  simp [Instr.fieldAt, run_underlying Tryz.underlying169, Instr.sureAddr, fieldPlace, ty3.sizeOf]
theorem fa171_0 (a : Addr) (w : World) : (Instr.fieldAt 171 (.pointer (some a)) 0).run Tryz.prog w = .ok (.pointer (some (a.add 0))) w := by
  simp [Instr.fieldAt, run_underlying Tryz.underlying171, Instr.sureAddr, fieldPlace, ty3.sizeOf]
theorem fa171_1 (a : Addr) (w : World) : (Instr.fieldAt 171 (.pointer (some a)) 1).run Tryz.prog w = .ok (.pointer (some (a.add 1))) w := by
  simp [Instr.fieldAt, run_underlying Tryz.underlying171, Instr.sureAddr, fieldPlace, ty3.sizeOf]
theorem fa175_0 (a : Addr) (w : World) : (Instr.fieldAt 175 (.pointer (some a)) 0).run Tryz.prog w = .ok (.pointer (some (a.add 0))) w := by
  simp [Instr.fieldAt, run_underlying Tryz.underlying175, Instr.sureAddr, fieldPlace, ty37.sizeOf]
theorem fa175_1 (a : Addr) (w : World) : (Instr.fieldAt 175 (.pointer (some a)) 1).run Tryz.prog w = .ok (.pointer (some (a.add 1))) w := by
  simp [Instr.fieldAt, run_underlying Tryz.underlying175, Instr.sureAddr, fieldPlace, ty21.sizeOf]
theorem fa175_2 (a : Addr) (w : World) : (Instr.fieldAt 175 (.pointer (some a)) 2).run Tryz.prog w = .ok (.pointer (some (a.add 2))) w := by
  simp [Instr.fieldAt, run_underlying Tryz.underlying175, Instr.sureAddr, fieldPlace, ty37.sizeOf]
theorem fa175_3 (a : Addr) (w : World) : (Instr.fieldAt 175 (.pointer (some a)) 3).run Tryz.prog w = .ok (.pointer (some (a.add 3))) w := by
  simp [Instr.fieldAt, run_underlying Tryz.underlying175, Instr.sureAddr, fieldPlace, ty37.sizeOf]
theorem fa208_0 (a : Addr) (w : World) : (Instr.fieldAt 208 (.pointer (some a)) 0).run Tryz.prog w = .ok (.pointer (some (a.add 0))) w := by
  simp [Instr.fieldAt, run_underlying Tryz.underlying208, Instr.sureAddr, fieldPlace, ty3.sizeOf]
theorem bld27 {F : Env} {n : Nat} {dst : Option Tmp} {T : TypeId} {p : String} {e : Array Edge} {g : Option (Nat × Bool)} {parts : Array (Nat × Operand)} {ps : List (Nat × Value)} {cs : List Value} (hps : Parts F parts.toList ps) (h : Fil [(0, 1), (1, 1), (2, 1), (3, 1), (4, 1)] ps [.int .i64 0, .int .i64 0, .int .i64 0, .int .i64 0, .bool false] cs) : Pur Tryz.prog ⟨dst, .build 27 parts, T, p, e, g⟩ F n (.agg cs.toArray) :=
  p_build ty27 Tryz.underlying27 (by intro w; simp [ty3.sizeOf, ty4.sizeOf]) hps h
theorem bld36 {F : Env} {n : Nat} {dst : Option Tmp} {T : TypeId} {p : String} {e : Array Edge} {g : Option (Nat × Bool)} {parts : Array (Nat × Operand)} {ps : List (Nat × Value)} {cs : List Value} (hps : Parts F parts.toList ps) (h : Fil [(0, 1), (1, 1)] ps [.int .i64 0, .int .i64 0] cs) : Pur Tryz.prog ⟨dst, .build 36 parts, T, p, e, g⟩ F n (.agg cs.toArray) :=
  p_build ty36 Tryz.underlying36 (by intro w; simp [ty3.sizeOf]) hps h
theorem bld39 {F : Env} {n : Nat} {dst : Option Tmp} {T : TypeId} {p : String} {e : Array Edge} {g : Option (Nat × Bool)} {parts : Array (Nat × Operand)} {ps : List (Nat × Value)} {cs : List Value} (hps : Parts F parts.toList ps) (h : Fil [(0, 1), (1, 1), (2, 1), (3, 1), (4, 1), (5, 1), (6, 1), (7, 1)] ps [.int .i64 0, .int .i64 0, .int .u32 0, .int .u32 0, .int .u32 0, .int .u32 0, .int .u32 0, .int .u32 0] cs) : Pur Tryz.prog ⟨dst, .build 39 parts, T, p, e, g⟩ F n (.agg cs.toArray) :=
  p_build ty39 Tryz.underlying39 (by intro w; simp [ty3.sizeOf, ty37.sizeOf]) hps h
theorem bld41 {F : Env} {n : Nat} {dst : Option Tmp} {T : TypeId} {p : String} {e : Array Edge} {g : Option (Nat × Bool)} {parts : Array (Nat × Operand)} {ps : List (Nat × Value)} {cs : List Value} (hps : Parts F parts.toList ps) (h : Fil [(0, 2), (2, 8), (10, 1), (11, 1), (12, 1)] ps [.int .i64 0, .int .i64 0, .int .i64 0, .int .i64 0, .int .u32 0, .int .u32 0, .int .u32 0, .int .u32 0, .int .u32 0, .int .u32 0, .int .i64 0, .bool false, .bool false] cs) : Pur Tryz.prog ⟨dst, .build 41 parts, T, p, e, g⟩ F n (.agg cs.toArray) :=
  p_build ty41 Tryz.underlying41 (by intro w; simp [ty3.sizeOf, ty36.sizeOf, ty39.sizeOf, ty4.sizeOf]) hps h
theorem bld50 {F : Env} {n : Nat} {dst : Option Tmp} {T : TypeId} {p : String} {e : Array Edge} {g : Option (Nat × Bool)} {parts : Array (Nat × Operand)} {ps : List (Nat × Value)} {cs : List Value} (hps : Parts F parts.toList ps) (h : Fil [(0, 2), (2, 1), (3, 1), (4, 1), (5, 1), (6, 1)] ps [.int .i64 0, .int .i64 0, .int .u32 0, .int .i64 0, .int .i64 0, .int .u32 0, .bool false] cs) : Pur Tryz.prog ⟨dst, .build 50 parts, T, p, e, g⟩ F n (.agg cs.toArray) :=
  p_build ty50 Tryz.underlying50 (by intro w; simp [ty3.sizeOf, ty36.sizeOf, ty37.sizeOf, ty4.sizeOf]) hps h
theorem bld71 {F : Env} {n : Nat} {dst : Option Tmp} {T : TypeId} {p : String} {e : Array Edge} {g : Option (Nat × Bool)} {parts : Array (Nat × Operand)} {ps : List (Nat × Value)} {cs : List Value} (hps : Parts F parts.toList ps) (h : Fil [(0, 2), (2, 1), (3, 1), (4, 1)] ps [.int .i64 0, .int .i64 0, .int .u32 0, .int .i64 0, .bool false] cs) : Pur Tryz.prog ⟨dst, .build 71 parts, T, p, e, g⟩ F n (.agg cs.toArray) :=
  p_build ty71 Tryz.underlying71 (by intro w; simp [ty3.sizeOf, ty36.sizeOf, ty37.sizeOf, ty4.sizeOf]) hps h
theorem bld77 {F : Env} {n : Nat} {dst : Option Tmp} {T : TypeId} {p : String} {e : Array Edge} {g : Option (Nat × Bool)} {parts : Array (Nat × Operand)} {ps : List (Nat × Value)} {cs : List Value} (hps : Parts F parts.toList ps) (h : Fil [(0, 2), (2, 1)] ps [.int .i64 0, .int .i64 0, .int .i64 0] cs) : Pur Tryz.prog ⟨dst, .build 77 parts, T, p, e, g⟩ F n (.agg cs.toArray) :=
  p_build ty77 Tryz.underlying77 (by intro w; simp [ty3.sizeOf, ty36.sizeOf]) hps h
theorem bld82 {F : Env} {n : Nat} {dst : Option Tmp} {T : TypeId} {p : String} {e : Array Edge} {g : Option (Nat × Bool)} {parts : Array (Nat × Operand)} {ps : List (Nat × Value)} {cs : List Value} (hps : Parts F parts.toList ps) (h : Fil [(0, 1), (1, 1)] ps [.int .i64 0, .int .i64 0] cs) : Pur Tryz.prog ⟨dst, .build 82 parts, T, p, e, g⟩ F n (.agg cs.toArray) :=
  p_build ty82 Tryz.underlying82 (by intro w; simp [ty3.sizeOf]) hps h
theorem bld117 {F : Env} {n : Nat} {dst : Option Tmp} {T : TypeId} {p : String} {e : Array Edge} {g : Option (Nat × Bool)} {parts : Array (Nat × Operand)} {ps : List (Nat × Value)} {cs : List Value} (hps : Parts F parts.toList ps) (h : Fil [(0, 5), (5, 1), (6, 1), (7, 1), (8, 1), (9, 1), (10, 1), (11, 1), (12, 1), (13, 1), (14, 1), (15, 1), (16, 1), (17, 1), (18, 1), (19, 1), (20, 1), (21, 1), (22, 1)] ps [.int .i64 0, .int .i64 0, .int .i64 0, .int .i64 0, .bool false, .pointer none, .map none, .map none, .map none, .slice none 0 0, .map none, .slice none 0 0, .slice none 0 0, .map none, .map none, .map none, .map none, .map none, .map none, .map none, .map none, .map none, .int .u64 0] cs) : Pur Tryz.prog ⟨dst, .build 117 parts, T, p, e, g⟩ F n (.agg cs.toArray) :=
  p_build ty117 Tryz.underlying117 (by intro w; simp [ty101.sizeOf, ty104.sizeOf, ty107.sizeOf, ty110.sizeOf, ty113.sizeOf, ty115.sizeOf, ty27.sizeOf, ty62.sizeOf, ty86.sizeOf, ty88.sizeOf, ty89.sizeOf, ty90.sizeOf, ty91.sizeOf, ty92.sizeOf, ty93.sizeOf, ty94.sizeOf, ty95.sizeOf, ty98.sizeOf]) hps h
theorem bld121 {F : Env} {n : Nat} {dst : Option Tmp} {T : TypeId} {p : String} {e : Array Edge} {g : Option (Nat × Bool)} {parts : Array (Nat × Operand)} {ps : List (Nat × Value)} {cs : List Value} (hps : Parts F parts.toList ps) (h : Fil [(0, 1), (1, 1)] ps [.slice none 0 0, .slice none 0 0] cs) : Pur Tryz.prog ⟨dst, .build 121 parts, T, p, e, g⟩ F n (.agg cs.toArray) :=
  p_build ty121 Tryz.underlying121 (by intro w; simp [ty118.sizeOf, ty119.sizeOf]) hps h
theorem bld126 {F : Env} {n : Nat} {dst : Option Tmp} {T : TypeId} {p : String} {e : Array Edge} {g : Option (Nat × Bool)} {parts : Array (Nat × Operand)} {ps : List (Nat × Value)} {cs : List Value} (hps : Parts F parts.toList ps) (h : Fil [(0, 1), (1, 2)] ps [.int .u32 0, .slice none 0 0, .map none] cs) : Pur Tryz.prog ⟨dst, .build 126 parts, T, p, e, g⟩ F n (.agg cs.toArray) :=
  p_build ty126 Tryz.underlying126 (by intro w; simp [ty124.sizeOf, ty37.sizeOf]) hps h
theorem bld138 {F : Env} {n : Nat} {dst : Option Tmp} {T : TypeId} {p : String} {e : Array Edge} {g : Option (Nat × Bool)} {parts : Array (Nat × Operand)} {ps : List (Nat × Value)} {cs : List Value} (hps : Parts F parts.toList ps) (h : Fil [(0, 1), (1, 1), (2, 1), (3, 1), (4, 1), (5, 1), (6, 1), (7, 1)] ps [.pointer none, .int .i64 0, .int .i64 0, .int .i64 0, .int .i64 0, .int .u32 0, .int .u32 0, .slice none 0 0] cs) : Pur Tryz.prog ⟨dst, .build 138 parts, T, p, e, g⟩ F n (.agg cs.toArray) :=
  p_build ty138 Tryz.underlying138 (by intro w; simp [ty136.sizeOf, ty3.sizeOf, ty37.sizeOf, ty86.sizeOf]) hps h
theorem bld140 {F : Env} {n : Nat} {dst : Option Tmp} {T : TypeId} {p : String} {e : Array Edge} {g : Option (Nat × Bool)} {parts : Array (Nat × Operand)} {ps : List (Nat × Value)} {cs : List Value} (hps : Parts F parts.toList ps) (h : Fil [(0, 1), (1, 2)] ps [.int .u64 0, .int .i64 0, .int .i64 0] cs) : Pur Tryz.prog ⟨dst, .build 140 parts, T, p, e, g⟩ F n (.agg cs.toArray) :=
  p_build ty140 Tryz.underlying140 (by intro w; simp [ty36.sizeOf, ty62.sizeOf]) hps h
theorem bld150 {F : Env} {n : Nat} {dst : Option Tmp} {T : TypeId} {p : String} {e : Array Edge} {g : Option (Nat × Bool)} {parts : Array (Nat × Operand)} {ps : List (Nat × Value)} {cs : List Value} (hps : Parts F parts.toList ps) (h : Fil [(0, 2), (2, 1)] ps [.int .i64 0, .int .i64 0, .bool false] cs) : Pur Tryz.prog ⟨dst, .build 150 parts, T, p, e, g⟩ F n (.agg cs.toArray) :=
  p_build ty150 Tryz.underlying150 (by intro w; simp [ty36.sizeOf, ty4.sizeOf]) hps h
theorem bld155 {F : Env} {n : Nat} {dst : Option Tmp} {T : TypeId} {p : String} {e : Array Edge} {g : Option (Nat × Bool)} {parts : Array (Nat × Operand)} {ps : List (Nat × Value)} {cs : List Value} (hps : Parts F parts.toList ps) (h : Fil [(0, 1)] ps [.slice none 0 0] cs) : Pur Tryz.prog ⟨dst, .build 155 parts, T, p, e, g⟩ F n (.agg cs.toArray) :=
  p_build ty155 Tryz.underlying155 (by intro w; simp [ty153.sizeOf]) hps h
theorem bld158 {F : Env} {n : Nat} {dst : Option Tmp} {T : TypeId} {p : String} {e : Array Edge} {g : Option (Nat × Bool)} {parts : Array (Nat × Operand)} {ps : List (Nat × Value)} {cs : List Value} (hps : Parts F parts.toList ps) (h : Fil [(0, 1), (1, 1), (2, 1), (3, 1), (4, 1)] ps [.int .i64 0, .int .i64 0, .int .i64 0, .int .i64 0, .int .i64 0] cs) : Pur Tryz.prog ⟨dst, .build 158 parts, T, p, e, g⟩ F n (.agg cs.toArray) :=
  p_build ty158 Tryz.underlying158 (by intro w; simp [ty3.sizeOf]) hps h
theorem bld160 {F : Env} {n : Nat} {dst : Option Tmp} {T : TypeId} {p : String} {e : Array Edge} {g : Option (Nat × Bool)} {parts : Array (Nat × Operand)} {ps : List (Nat × Value)} {cs : List Value} (hps : Parts F parts.toList ps) (h : Fil [(0, 1), (1, 1), (2, 1), (3, 5)] ps [.int .i64 0, .int .i64 0, .int .i64 0, .int .i64 0, .int .i64 0, .int .i64 0, .int .i64 0, .int .i64 0] cs) : Pur Tryz.prog ⟨dst, .build 160 parts, T, p, e, g⟩ F n (.agg cs.toArray) :=
  p_build ty160 Tryz.underlying160 (by intro w; simp [ty158.sizeOf, ty3.sizeOf]) hps h
theorem bld163 {F : Env} {n : Nat} {dst : Option Tmp} {T : TypeId} {p : String} {e : Array Edge} {g : Option (Nat × Bool)} {parts : Array (Nat × Operand)} {ps : List (Nat × Value)} {cs : List Value} (hps : Parts F parts.toList ps) (h : Fil [(0, 1), (1, 1)] ps [.int .i64 0, .int .u32 0] cs) : Pur Tryz.prog ⟨dst, .build 163 parts, T, p, e, g⟩ F n (.agg cs.toArray) :=
  p_build ty163 Tryz.underlying163 (by intro w; simp [ty3.sizeOf, ty37.sizeOf]) hps h
theorem bld166 {F : Env} {n : Nat} {dst : Option Tmp} {T : TypeId} {p : String} {e : Array Edge} {g : Option (Nat × Bool)} {parts : Array (Nat × Operand)} {ps : List (Nat × Value)} {cs : List Value} (hps : Parts F parts.toList ps) (h : Fil [(0, 1), (1, 1)] ps [.int .i64 0, .int .i64 0] cs) : Pur Tryz.prog ⟨dst, .build 166 parts, T, p, e, g⟩ F n (.agg cs.toArray) :=
  p_build ty166 Tryz.underlying166 (by intro w; simp [ty3.sizeOf]) hps h
theorem bld169 {F : Env} {n : Nat} {dst : Option Tmp} {T : TypeId} {p : String} {e : Array Edge} {g : Option (Nat × Bool)} {parts : Array (Nat × Operand)} {ps : List (Nat × Value)} {cs : List Value} (hps : Parts F parts.toList ps) (h : Fil [(0, 1), (1, 1)] ps [.int .i64 0, .int .i64 0] cs) : Pur Tryz.prog ⟨dst, .build 169 parts, T, p, e, g⟩ F n (.agg cs.toArray) :=
  p_build ty169 Tryz.underlying169 (by intro w; simp [ty3.sizeOf]) hps h
theorem bld171 {F : Env} {n : Nat} {dst : Option Tmp} {T : TypeId} {p : String} {e : Array Edge} {g : Option (Nat × Bool)} {parts : Array (Nat × Operand)} {ps : List (Nat × Value)} {cs : List Value} (hps : Parts F parts.toList ps) (h : Fil [(0, 1), (1, 1)] ps [.int .i64 0, .int .i64 0] cs) : Pur Tryz.prog ⟨dst, .build 171 parts, T, p, e, g⟩ F n (.agg cs.toArray) :=
  p_build ty171 Tryz.underlying171 (by intro w; simp [ty3.sizeOf]) hps h
theorem bld175 {F : Env} {n : Nat} {dst : Option Tmp} {T : TypeId} {p : String} {e : Array Edge} {g : Option (Nat × Bool)} {parts : Array (Nat × Operand)} {ps : List (Nat × Value)} {cs : List Value} (hps : Parts F parts.toList ps) (h : Fil [(0, 1), (1, 1), (2, 1), (3, 1)] ps [.int .u32 0, .int .i32 0, .int .u32 0, .int .u32 0] cs) : Pur Tryz.prog ⟨dst, .build 175 parts, T, p, e, g⟩ F n (.agg cs.toArray) :=
  p_build ty175 Tryz.underlying175 (by intro w; simp [ty21.sizeOf, ty37.sizeOf]) hps h
theorem bld203 {F : Env} {n : Nat} {dst : Option Tmp} {T : TypeId} {p : String} {e : Array Edge} {g : Option (Nat × Bool)} {parts : Array (Nat × Operand)} {ps : List (Nat × Value)} {cs : List Value} (hps : Parts F parts.toList ps) (h : Fil [(0, 5), (5, 2)] ps [.int .i64 0, .int .i64 0, .int .i64 0, .int .i64 0, .int .i64 0, .int .i64 0, .int .i64 0] cs) : Pur Tryz.prog ⟨dst, .build 203 parts, T, p, e, g⟩ F n (.agg cs.toArray) :=
  p_build ty203 Tryz.underlying203 (by intro w; simp [ty158.sizeOf, ty166.sizeOf]) hps h
theorem bld208 {F : Env} {n : Nat} {dst : Option Tmp} {T : TypeId} {p : String} {e : Array Edge} {g : Option (Nat × Bool)} {parts : Array (Nat × Operand)} {ps : List (Nat × Value)} {cs : List Value} (hps : Parts F parts.toList ps) (h : Fil [(0, 1), (1, 1)] ps [.int .i64 0, .int .i64 0] cs) : Pur Tryz.prog ⟨dst, .build 208 parts, T, p, e, g⟩ F n (.agg cs.toArray) :=
  p_build ty208 Tryz.underlying208 (by intro w; simp [ty3.sizeOf]) hps h
theorem shp36 : Tryz.prog.stoodInHeld 36 = false := by kernel_rfl
theorem flds36 : Tryz.prog.underlying 36 = some (.struct (Tryz.prog.fieldsOf 36)) := by kernel_rfl
theorem eqin36 (a0 b0 : Int) (a1 b1 : Int) (D : Nat) (w : World) : (Op.equalIn (D + 2) 36 (.agg #[.int .i64 a0, .int .i64 a1]) (.agg #[.int .i64 b0, .int .i64 b1])).run Tryz.prog w = .ok (decide (a0 = b0 ∧ a1 = b1)) w := by
  have h0 := run_equalIn_int (P := Tryz.prog) w (D + 0) 3 .i64 .i64 a0 b0 Tryz.underlying3
  have h1 := run_equalIn_int (P := Tryz.prog) w (D + 0) 3 .i64 .i64 a1 b1 Tryz.underlying3
  simp only [Nat.add_zero] at h0 h1
  rw [run_equalIn_struct w (D + 1) 36 _ _ flds36 shp36]
  simp only [Program.fieldsOf, Tryz.underlying36]
  simp [Op.eqFields, part, ty3.isAgg, ty3.sizeOf, h0, h1]
  (repeat' split) <;> simp_all
theorem eg36 (op : BinOp) (x y : Operand) (xs ys : Array Value) (w : World) : (eqGuard op 36 x y (.agg xs) (.agg ys)).run Tryz.prog w = .ok () w := run_eqGuard_agg w op 36 x y xs ys (by kernel_rfl)
theorem eqv36 (a0 b0 : Int) (a1 b1 : Int) (w : World) : (binOp .eql 36 (.agg #[.int .i64 a0, .int .i64 a1]) (.agg #[.int .i64 b0, .int .i64 b1])).run Tryz.prog w = .ok (.bool (decide (a0 = b0 ∧ a1 = b1))) w := by
  have h := eqin36 a0 b0 a1 b1 9998 w
  rw [(by decide : 9998 + 2 = 10000)] at h
  rw [run_eql_struct w 36, h]; rfl
theorem nev36 (a0 b0 : Int) (a1 b1 : Int) (w : World) : (binOp .neq 36 (.agg #[.int .i64 a0, .int .i64 a1]) (.agg #[.int .i64 b0, .int .i64 b1])).run Tryz.prog w = .ok (.bool (!decide (a0 = b0 ∧ a1 = b1))) w := by
  have h := eqin36 a0 b0 a1 b1 9998 w
  rw [(by decide : 9998 + 2 = 10000)] at h
  rw [run_neq_struct w 36, h]; rfl
theorem shp166 : Tryz.prog.stoodInHeld 166 = false := by kernel_rfl
theorem flds166 : Tryz.prog.underlying 166 = some (.struct (Tryz.prog.fieldsOf 166)) := by kernel_rfl
theorem eqin166 (a0 b0 : Int) (a1 b1 : Int) (D : Nat) (w : World) : (Op.equalIn (D + 2) 166 (.agg #[.int .i64 a0, .int .i64 a1]) (.agg #[.int .i64 b0, .int .i64 b1])).run Tryz.prog w = .ok (decide (a0 = b0 ∧ a1 = b1)) w := by
  have h0 := run_equalIn_int (P := Tryz.prog) w (D + 0) 3 .i64 .i64 a0 b0 Tryz.underlying3
  have h1 := run_equalIn_int (P := Tryz.prog) w (D + 0) 3 .i64 .i64 a1 b1 Tryz.underlying3
  simp only [Nat.add_zero] at h0 h1
  rw [run_equalIn_struct w (D + 1) 166 _ _ flds166 shp166]
  simp only [Program.fieldsOf, Tryz.underlying166]
  simp [Op.eqFields, part, ty3.isAgg, ty3.sizeOf, h0, h1]
  (repeat' split) <;> simp_all
theorem eg166 (op : BinOp) (x y : Operand) (xs ys : Array Value) (w : World) : (eqGuard op 166 x y (.agg xs) (.agg ys)).run Tryz.prog w = .ok () w := run_eqGuard_agg w op 166 x y xs ys (by kernel_rfl)
theorem eqv166 (a0 b0 : Int) (a1 b1 : Int) (w : World) : (binOp .eql 166 (.agg #[.int .i64 a0, .int .i64 a1]) (.agg #[.int .i64 b0, .int .i64 b1])).run Tryz.prog w = .ok (.bool (decide (a0 = b0 ∧ a1 = b1))) w := by
  have h := eqin166 a0 b0 a1 b1 9998 w
  rw [(by decide : 9998 + 2 = 10000)] at h
  rw [run_eql_struct w 166, h]; rfl
theorem nev166 (a0 b0 : Int) (a1 b1 : Int) (w : World) : (binOp .neq 166 (.agg #[.int .i64 a0, .int .i64 a1]) (.agg #[.int .i64 b0, .int .i64 b1])).run Tryz.prog w = .ok (.bool (!decide (a0 = b0 ∧ a1 = b1))) w := by
  have h := eqin166 a0 b0 a1 b1 9998 w
  rw [(by decide : 9998 + 2 = 10000)] at h
  rw [run_neq_struct w 166, h]; rfl
theorem zv_of {P : Program} {t : TypeId} {z : Value} (h : (P.info? t).bind (·.zero) = some z) : (P.info? t).bind (·.zero) = some z := h
theorem zv3 : (Tryz.prog.info? 3).bind (·.zero) = some (.int .i64 0) := by kernel_rfl
theorem zv4 : (Tryz.prog.info? 4).bind (·.zero) = some (.bool false) := by kernel_rfl
theorem zv30 : (Tryz.prog.info? 30).bind (·.zero) = some (.pointer none) := by kernel_rfl
theorem zv41 : (Tryz.prog.info? 41).bind (·.zero) = some (.agg #[.int .i64 0, .int .i64 0, .int .i64 0, .int .i64 0, .int .u32 0, .int .u32 0, .int .u32 0, .int .u32 0, .int .u32 0, .int .u32 0, .int .i64 0, .bool false, .bool false]) := by kernel_rfl
theorem zv54 : (Tryz.prog.info? 54).bind (·.zero) = some (.pointer none) := by kernel_rfl
theorem zv68 : (Tryz.prog.info? 68).bind (·.zero) = some (.pointer none) := by kernel_rfl
theorem zv73 : (Tryz.prog.info? 73).bind (·.zero) = some (.pointer none) := by kernel_rfl
theorem zv160 : (Tryz.prog.info? 160).bind (·.zero) = some (.agg #[.int .i64 0, .int .i64 0, .int .i64 0, .int .i64 0, .int .i64 0, .int .i64 0, .int .i64 0, .int .i64 0]) := by kernel_rfl
theorem zv163 : (Tryz.prog.info? 163).bind (·.zero) = some (.agg #[.int .i64 0, .int .u32 0]) := by kernel_rfl
theorem zv171 : (Tryz.prog.info? 171).bind (·.zero) = some (.agg #[.int .i64 0, .int .i64 0]) := by kernel_rfl
theorem zv203 : (Tryz.prog.info? 203).bind (·.zero) = some (.agg #[.int .i64 0, .int .i64 0, .int .i64 0, .int .i64 0, .int .i64 0, .int .i64 0, .int .i64 0]) := by kernel_rfl
theorem ky3 : Ky Tryz.prog 3 (fun a : Int => Value.int .i64 a) := ky_int Tryz.underlying3
theorem ky36 : Ky Tryz.prog 36 (fun a : Int × Int => Value.agg #[.int .i64 a.1, .int .i64 a.2]) := by
  refine ky_struct Tryz.underlying36 (fun a => ?_) (fun a em w => ?_) (fun a b w => ?_)
  · have : ∀ n, Instr.sameBits (n + 2) (.agg #[.int .i64 a.1, .int .i64 a.2]) (.agg #[.int .i64 a.1, .int .i64 a.2]) = true := fun n => by simp [Instr.sameBits]
    have h := this 9998
    rw [(by decide : 9998 + 2 = 10000)] at h
    exact h
  · have : ∀ n, (Instr.checkKey em (n + 2) 36 (.agg #[.int .i64 a.1, .int .i64 a.2])).run Tryz.prog w = .ok () w := fun n => by
      simp [Instr.checkKey, run_underlying Tryz.underlying36, part, run_underlying Tryz.underlying3, ty3.isAgg]
    have h := this 9998
    rw [(by decide : 9998 + 2 = 10000)] at h
    exact h
  · have h := eqin36 a.1 b.1 a.2 b.2 9998 w
    rw [(by decide : 9998 + 2 = 10000)] at h
    have e : decide (a.1 = b.1 ∧ a.2 = b.2) = decide (a = b) := by rw [decide_eq_decide]; exact Prod.ext_iff.symm
    rw [e] at h
    exact h
theorem ky166 : Ky Tryz.prog 166 (fun a : Int × Int => Value.agg #[.int .i64 a.1, .int .i64 a.2]) := by
  refine ky_struct Tryz.underlying166 (fun a => ?_) (fun a em w => ?_) (fun a b w => ?_)
  · have : ∀ n, Instr.sameBits (n + 2) (.agg #[.int .i64 a.1, .int .i64 a.2]) (.agg #[.int .i64 a.1, .int .i64 a.2]) = true := fun n => by simp [Instr.sameBits]
    have h := this 9998
    rw [(by decide : 9998 + 2 = 10000)] at h
    exact h
  · have : ∀ n, (Instr.checkKey em (n + 2) 166 (.agg #[.int .i64 a.1, .int .i64 a.2])).run Tryz.prog w = .ok () w := fun n => by
      simp [Instr.checkKey, run_underlying Tryz.underlying166, part, run_underlying Tryz.underlying3, ty3.isAgg]
    have h := this 9998
    rw [(by decide : 9998 + 2 = 10000)] at h
    exact h
  · have h := eqin166 a.1 b.1 a.2 b.2 9998 w
    rw [(by decide : 9998 + 2 = 10000)] at h
    have e : decide (a.1 = b.1 ∧ a.2 = b.2) = decide (a = b) := by rw [decide_eq_decide]; exact Prod.ext_iff.symm
    rw [e] at h
    exact h
theorem shp169 : Tryz.prog.stoodInHeld 169 = false := by kernel_rfl
theorem flds169 : Tryz.prog.underlying 169 = some (.struct (Tryz.prog.fieldsOf 169)) := by kernel_rfl
theorem eqin169 (a0 b0 : Int) (a1 b1 : Int) (D : Nat) (w : World) : (Op.equalIn (D + 2) 169 (.agg #[.int .i64 a0, .int .i64 a1]) (.agg #[.int .i64 b0, .int .i64 b1])).run Tryz.prog w = .ok (decide (a0 = b0 ∧ a1 = b1)) w := by
  have h0 := run_equalIn_int (P := Tryz.prog) w (D + 0) 3 .i64 .i64 a0 b0 Tryz.underlying3
  have h1 := run_equalIn_int (P := Tryz.prog) w (D + 0) 3 .i64 .i64 a1 b1 Tryz.underlying3
  simp only [Nat.add_zero] at h0 h1
  rw [run_equalIn_struct w (D + 1) 169 _ _ flds169 shp169]
  simp only [Program.fieldsOf, Tryz.underlying169]
  simp [Op.eqFields, part, ty3.isAgg, ty3.sizeOf, h0, h1]
  (repeat' split) <;> simp_all
theorem ky169 : Ky Tryz.prog 169 (fun a : Int × Int => Value.agg #[.int .i64 a.1, .int .i64 a.2]) := by
  refine ky_struct Tryz.underlying169 (fun a => ?_) (fun a em w => ?_) (fun a b w => ?_)
  · have : ∀ n, Instr.sameBits (n + 2) (.agg #[.int .i64 a.1, .int .i64 a.2]) (.agg #[.int .i64 a.1, .int .i64 a.2]) = true := fun n => by simp [Instr.sameBits]
    have h := this 9998
    rw [(by decide : 9998 + 2 = 10000)] at h
    exact h
  · have : ∀ n, (Instr.checkKey em (n + 2) 169 (.agg #[.int .i64 a.1, .int .i64 a.2])).run Tryz.prog w = .ok () w := fun n => by
      simp [Instr.checkKey, run_underlying Tryz.underlying169, part, run_underlying Tryz.underlying3, ty3.isAgg]
    have h := this 9998
    rw [(by decide : 9998 + 2 = 10000)] at h
    exact h
  · have h := eqin169 a.1 b.1 a.2 b.2 9998 w
    rw [(by decide : 9998 + 2 = 10000)] at h
    have e : decide (a.1 = b.1 ∧ a.2 = b.2) = decide (a = b) := by rw [decide_eq_decide]; exact Prod.ext_iff.symm
    rw [e] at h
    exact h
theorem shp295 : Tryz.prog.stoodInHeld 295 = false := by kernel_rfl
theorem flds295 : Tryz.prog.underlying 295 = some (.struct (Tryz.prog.fieldsOf 295)) := by kernel_rfl
theorem eqin295 (a0 b0 : Int) (a1 b1 : Int) (D : Nat) (w : World) : (Op.equalIn (D + 2) 295 (.agg #[.int .i64 a0, .int .i64 a1]) (.agg #[.int .i64 b0, .int .i64 b1])).run Tryz.prog w = .ok (decide (a0 = b0 ∧ a1 = b1)) w := by
  have h0 := run_equalIn_int (P := Tryz.prog) w (D + 0) 3 .i64 .i64 a0 b0 Tryz.underlying3
  have h1 := run_equalIn_int (P := Tryz.prog) w (D + 0) 3 .i64 .i64 a1 b1 Tryz.underlying3
  simp only [Nat.add_zero] at h0 h1
  rw [run_equalIn_struct w (D + 1) 295 _ _ flds295 shp295]
  simp only [Program.fieldsOf, Tryz.underlying295]
  simp [Op.eqFields, part, ty3.isAgg, ty3.sizeOf, h0, h1]
  (repeat' split) <;> simp_all
theorem ky295 : Ky Tryz.prog 295 (fun a : Int × Int => Value.agg #[.int .i64 a.1, .int .i64 a.2]) := by
  refine ky_struct Tryz.underlying295 (fun a => ?_) (fun a em w => ?_) (fun a b w => ?_)
  · have : ∀ n, Instr.sameBits (n + 2) (.agg #[.int .i64 a.1, .int .i64 a.2]) (.agg #[.int .i64 a.1, .int .i64 a.2]) = true := fun n => by simp [Instr.sameBits]
    have h := this 9998
    rw [(by decide : 9998 + 2 = 10000)] at h
    exact h
  · have : ∀ n, (Instr.checkKey em (n + 2) 295 (.agg #[.int .i64 a.1, .int .i64 a.2])).run Tryz.prog w = .ok () w := fun n => by
      simp [Instr.checkKey, run_underlying Tryz.underlying295, part, run_underlying Tryz.underlying3, ty3.isAgg]
    have h := this 9998
    rw [(by decide : 9998 + 2 = 10000)] at h
    exact h
  · have h := eqin295 a.1 b.1 a.2 b.2 9998 w
    rw [(by decide : 9998 + 2 = 10000)] at h
    have e : decide (a.1 = b.1 ∧ a.2 = b.2) = decide (a = b) := by rw [decide_eq_decide]; exact Prod.ext_iff.symm
    rw [e] at h
    exact h
theorem nm3 : (Tryz.f3.name == "runtime.NumGoroutine") = false := by kernel_rfl
theorem bd3 : Tryz.f3.body.isNone = false := by kernel_rfl
theorem nm4 : (Tryz.f4.name == "runtime.NumGoroutine") = false := by kernel_rfl
theorem bd4 : Tryz.f4.body.isNone = false := by kernel_rfl
theorem nm5 : (Tryz.f5.name == "runtime.NumGoroutine") = false := by kernel_rfl
theorem bd5 : Tryz.f5.body.isNone = false := by kernel_rfl
theorem nm6 : (Tryz.f6.name == "runtime.NumGoroutine") = false := by kernel_rfl
theorem bd6 : Tryz.f6.body.isNone = false := by kernel_rfl
theorem nm7 : (Tryz.f7.name == "runtime.NumGoroutine") = false := by kernel_rfl
theorem bd7 : Tryz.f7.body.isNone = false := by kernel_rfl
theorem nm8 : (Tryz.f8.name == "runtime.NumGoroutine") = false := by kernel_rfl
theorem bd8 : Tryz.f8.body.isNone = false := by kernel_rfl
theorem nm9 : (Tryz.f9.name == "runtime.NumGoroutine") = false := by kernel_rfl
theorem bd9 : Tryz.f9.body.isNone = false := by kernel_rfl
theorem nm10 : (Tryz.f10.name == "runtime.NumGoroutine") = false := by kernel_rfl
theorem bd10 : Tryz.f10.body.isNone = false := by kernel_rfl
theorem nm11 : (Tryz.f11.name == "runtime.NumGoroutine") = false := by kernel_rfl
theorem bd11 : Tryz.f11.body.isNone = false := by kernel_rfl
theorem nm12 : (Tryz.f12.name == "runtime.NumGoroutine") = false := by kernel_rfl
theorem bd12 : Tryz.f12.body.isNone = false := by kernel_rfl
theorem nm13 : (Tryz.f13.name == "runtime.NumGoroutine") = false := by kernel_rfl
theorem bd13 : Tryz.f13.body.isNone = false := by kernel_rfl
theorem nm14 : (Tryz.f14.name == "runtime.NumGoroutine") = false := by kernel_rfl
theorem bd14 : Tryz.f14.body.isNone = false := by kernel_rfl
theorem nm15 : (Tryz.f15.name == "runtime.NumGoroutine") = false := by kernel_rfl
theorem bd15 : Tryz.f15.body.isNone = false := by kernel_rfl
theorem nm16 : (Tryz.f16.name == "runtime.NumGoroutine") = false := by kernel_rfl
theorem bd16 : Tryz.f16.body.isNone = false := by kernel_rfl
theorem nm17 : (Tryz.f17.name == "runtime.NumGoroutine") = false := by kernel_rfl
theorem bd17 : Tryz.f17.body.isNone = false := by kernel_rfl
theorem nm18 : (Tryz.f18.name == "runtime.NumGoroutine") = false := by kernel_rfl
theorem bd18 : Tryz.f18.body.isNone = false := by kernel_rfl
theorem nm19 : (Tryz.f19.name == "runtime.NumGoroutine") = false := by kernel_rfl
theorem bd19 : Tryz.f19.body.isNone = false := by kernel_rfl
theorem nm20 : (Tryz.f20.name == "runtime.NumGoroutine") = false := by kernel_rfl
theorem bd20 : Tryz.f20.body.isNone = false := by kernel_rfl
theorem nm21 : (Tryz.f21.name == "runtime.NumGoroutine") = false := by kernel_rfl
theorem bd21 : Tryz.f21.body.isNone = false := by kernel_rfl
theorem nm22 : (Tryz.f22.name == "runtime.NumGoroutine") = false := by kernel_rfl
theorem bd22 : Tryz.f22.body.isNone = false := by kernel_rfl
theorem nm23 : (Tryz.f23.name == "runtime.NumGoroutine") = false := by kernel_rfl
theorem bd23 : Tryz.f23.body.isNone = false := by kernel_rfl
theorem nm24 : (Tryz.f24.name == "runtime.NumGoroutine") = false := by kernel_rfl
theorem bd24 : Tryz.f24.body.isNone = false := by kernel_rfl
theorem nm25 : (Tryz.f25.name == "runtime.NumGoroutine") = false := by kernel_rfl
theorem bd25 : Tryz.f25.body.isNone = false := by kernel_rfl
theorem nm26 : (Tryz.f26.name == "runtime.NumGoroutine") = false := by kernel_rfl
theorem bd26 : Tryz.f26.body.isNone = false := by kernel_rfl
theorem nm27 : (Tryz.f27.name == "runtime.NumGoroutine") = false := by kernel_rfl
theorem bd27 : Tryz.f27.body.isNone = false := by kernel_rfl
theorem nm28 : (Tryz.f28.name == "runtime.NumGoroutine") = false := by kernel_rfl
theorem bd28 : Tryz.f28.body.isNone = false := by kernel_rfl
theorem nm29 : (Tryz.f29.name == "runtime.NumGoroutine") = false := by kernel_rfl
theorem bd29 : Tryz.f29.body.isNone = false := by kernel_rfl
theorem nm30 : (Tryz.f30.name == "runtime.NumGoroutine") = false := by kernel_rfl
theorem bd30 : Tryz.f30.body.isNone = false := by kernel_rfl
theorem nm31 : (Tryz.f31.name == "runtime.NumGoroutine") = false := by kernel_rfl
theorem bd31 : Tryz.f31.body.isNone = false := by kernel_rfl
theorem nm32 : (Tryz.f32.name == "runtime.NumGoroutine") = false := by kernel_rfl
theorem bd32 : Tryz.f32.body.isNone = false := by kernel_rfl
theorem nm33 : (Tryz.f33.name == "runtime.NumGoroutine") = false := by kernel_rfl
theorem bd33 : Tryz.f33.body.isNone = false := by kernel_rfl
theorem nm34 : (Tryz.f34.name == "runtime.NumGoroutine") = false := by kernel_rfl
theorem bd34 : Tryz.f34.body.isNone = false := by kernel_rfl
theorem nm35 : (Tryz.f35.name == "runtime.NumGoroutine") = false := by kernel_rfl
theorem bd35 : Tryz.f35.body.isNone = false := by kernel_rfl
theorem nm36 : (Tryz.f36.name == "runtime.NumGoroutine") = false := by kernel_rfl
theorem bd36 : Tryz.f36.body.isNone = false := by kernel_rfl
theorem nm37 : (Tryz.f37.name == "runtime.NumGoroutine") = false := by kernel_rfl
theorem bd37 : Tryz.f37.body.isNone = false := by kernel_rfl
theorem nm38 : (Tryz.f38.name == "runtime.NumGoroutine") = false := by kernel_rfl
theorem bd38 : Tryz.f38.body.isNone = false := by kernel_rfl
theorem nm39 : (Tryz.f39.name == "runtime.NumGoroutine") = false := by kernel_rfl
theorem bd39 : Tryz.f39.body.isNone = false := by kernel_rfl
theorem nm40 : (Tryz.f40.name == "runtime.NumGoroutine") = false := by kernel_rfl
theorem bd40 : Tryz.f40.body.isNone = false := by kernel_rfl
theorem nm41 : (Tryz.f41.name == "runtime.NumGoroutine") = false := by kernel_rfl
theorem bd41 : Tryz.f41.body.isNone = false := by kernel_rfl
theorem nm42 : (Tryz.f42.name == "runtime.NumGoroutine") = false := by kernel_rfl
theorem bd42 : Tryz.f42.body.isNone = false := by kernel_rfl
theorem nm43 : (Tryz.f43.name == "runtime.NumGoroutine") = false := by kernel_rfl
theorem bd43 : Tryz.f43.body.isNone = false := by kernel_rfl
theorem nm44 : (Tryz.f44.name == "runtime.NumGoroutine") = false := by kernel_rfl
theorem bd44 : Tryz.f44.body.isNone = false := by kernel_rfl
theorem nm45 : (Tryz.f45.name == "runtime.NumGoroutine") = false := by kernel_rfl
theorem bd45 : Tryz.f45.body.isNone = false := by kernel_rfl
theorem nm46 : (Tryz.f46.name == "runtime.NumGoroutine") = false := by kernel_rfl
theorem bd46 : Tryz.f46.body.isNone = false := by kernel_rfl
theorem nm47 : (Tryz.f47.name == "runtime.NumGoroutine") = false := by kernel_rfl
theorem bd47 : Tryz.f47.body.isNone = false := by kernel_rfl
theorem nm48 : (Tryz.f48.name == "runtime.NumGoroutine") = false := by kernel_rfl
theorem bd48 : Tryz.f48.body.isNone = false := by kernel_rfl
theorem nm49 : (Tryz.f49.name == "runtime.NumGoroutine") = false := by kernel_rfl
theorem bd49 : Tryz.f49.body.isNone = false := by kernel_rfl
theorem nm50 : (Tryz.f50.name == "runtime.NumGoroutine") = false := by kernel_rfl
theorem bd50 : Tryz.f50.body.isNone = false := by kernel_rfl
theorem nm51 : (Tryz.f51.name == "runtime.NumGoroutine") = false := by kernel_rfl
theorem bd51 : Tryz.f51.body.isNone = false := by kernel_rfl
theorem nm52 : (Tryz.f52.name == "runtime.NumGoroutine") = false := by kernel_rfl
theorem bd52 : Tryz.f52.body.isNone = false := by kernel_rfl
theorem nm53 : (Tryz.f53.name == "runtime.NumGoroutine") = false := by kernel_rfl
theorem bd53 : Tryz.f53.body.isNone = false := by kernel_rfl
theorem nm54 : (Tryz.f54.name == "runtime.NumGoroutine") = false := by kernel_rfl
theorem bd54 : Tryz.f54.body.isNone = false := by kernel_rfl
theorem nm55 : (Tryz.f55.name == "runtime.NumGoroutine") = false := by kernel_rfl
theorem bd55 : Tryz.f55.body.isNone = false := by kernel_rfl
theorem nm56 : (Tryz.f56.name == "runtime.NumGoroutine") = false := by kernel_rfl
theorem bd56 : Tryz.f56.body.isNone = false := by kernel_rfl
theorem nm57 : (Tryz.f57.name == "runtime.NumGoroutine") = false := by kernel_rfl
theorem bd57 : Tryz.f57.body.isNone = false := by kernel_rfl
theorem nm58 : (Tryz.f58.name == "runtime.NumGoroutine") = false := by kernel_rfl
theorem bd58 : Tryz.f58.body.isNone = false := by kernel_rfl
theorem nm59 : (Tryz.f59.name == "runtime.NumGoroutine") = false := by kernel_rfl
theorem bd59 : Tryz.f59.body.isNone = false := by kernel_rfl
theorem nm60 : (Tryz.f60.name == "runtime.NumGoroutine") = false := by kernel_rfl
theorem bd60 : Tryz.f60.body.isNone = false := by kernel_rfl
theorem nm61 : (Tryz.f61.name == "runtime.NumGoroutine") = false := by kernel_rfl
theorem bd61 : Tryz.f61.body.isNone = false := by kernel_rfl
theorem nm62 : (Tryz.f62.name == "runtime.NumGoroutine") = false := by kernel_rfl
theorem bd62 : Tryz.f62.body.isNone = false := by kernel_rfl
theorem nm63 : (Tryz.f63.name == "runtime.NumGoroutine") = false := by kernel_rfl
theorem bd63 : Tryz.f63.body.isNone = false := by kernel_rfl
theorem nm64 : (Tryz.f64.name == "runtime.NumGoroutine") = false := by kernel_rfl
theorem bd64 : Tryz.f64.body.isNone = false := by kernel_rfl
theorem nm65 : (Tryz.f65.name == "runtime.NumGoroutine") = false := by kernel_rfl
theorem bd65 : Tryz.f65.body.isNone = false := by kernel_rfl
theorem nm66 : (Tryz.f66.name == "runtime.NumGoroutine") = false := by kernel_rfl
theorem bd66 : Tryz.f66.body.isNone = false := by kernel_rfl
theorem nm67 : (Tryz.f67.name == "runtime.NumGoroutine") = false := by kernel_rfl
theorem bd67 : Tryz.f67.body.isNone = false := by kernel_rfl
theorem nm68 : (Tryz.f68.name == "runtime.NumGoroutine") = false := by kernel_rfl
theorem bd68 : Tryz.f68.body.isNone = false := by kernel_rfl
theorem nm69 : (Tryz.f69.name == "runtime.NumGoroutine") = false := by kernel_rfl
theorem bd69 : Tryz.f69.body.isNone = false := by kernel_rfl
theorem nm70 : (Tryz.f70.name == "runtime.NumGoroutine") = false := by kernel_rfl
theorem bd70 : Tryz.f70.body.isNone = false := by kernel_rfl
theorem nm71 : (Tryz.f71.name == "runtime.NumGoroutine") = false := by kernel_rfl
theorem bd71 : Tryz.f71.body.isNone = false := by kernel_rfl
theorem nm72 : (Tryz.f72.name == "runtime.NumGoroutine") = false := by kernel_rfl
theorem bd72 : Tryz.f72.body.isNone = false := by kernel_rfl
theorem nm73 : (Tryz.f73.name == "runtime.NumGoroutine") = false := by kernel_rfl
theorem bd73 : Tryz.f73.body.isNone = false := by kernel_rfl
theorem nm74 : (Tryz.f74.name == "runtime.NumGoroutine") = false := by kernel_rfl
theorem bd74 : Tryz.f74.body.isNone = false := by kernel_rfl
theorem nm75 : (Tryz.f75.name == "runtime.NumGoroutine") = false := by kernel_rfl
theorem bd75 : Tryz.f75.body.isNone = false := by kernel_rfl
theorem nm76 : (Tryz.f76.name == "runtime.NumGoroutine") = false := by kernel_rfl
theorem nm77 : (Tryz.f77.name == "runtime.NumGoroutine") = false := by kernel_rfl
theorem bd77 : Tryz.f77.body.isNone = false := by kernel_rfl
theorem nm78 : (Tryz.f78.name == "runtime.NumGoroutine") = false := by kernel_rfl
theorem bd78 : Tryz.f78.body.isNone = false := by kernel_rfl
theorem nm79 : (Tryz.f79.name == "runtime.NumGoroutine") = false := by kernel_rfl
theorem bd79 : Tryz.f79.body.isNone = false := by kernel_rfl
theorem nm80 : (Tryz.f80.name == "runtime.NumGoroutine") = false := by kernel_rfl
theorem bd80 : Tryz.f80.body.isNone = false := by kernel_rfl
theorem nm81 : (Tryz.f81.name == "runtime.NumGoroutine") = false := by kernel_rfl
theorem bd81 : Tryz.f81.body.isNone = false := by kernel_rfl
theorem nm82 : (Tryz.f82.name == "runtime.NumGoroutine") = false := by kernel_rfl
theorem bd82 : Tryz.f82.body.isNone = false := by kernel_rfl
theorem nm83 : (Tryz.f83.name == "runtime.NumGoroutine") = false := by kernel_rfl
theorem bd83 : Tryz.f83.body.isNone = false := by kernel_rfl
theorem nm84 : (Tryz.f84.name == "runtime.NumGoroutine") = false := by kernel_rfl
theorem bd84 : Tryz.f84.body.isNone = false := by kernel_rfl
theorem nm85 : (Tryz.f85.name == "runtime.NumGoroutine") = false := by kernel_rfl
theorem bd85 : Tryz.f85.body.isNone = false := by kernel_rfl
theorem nm86 : (Tryz.f86.name == "runtime.NumGoroutine") = false := by kernel_rfl
theorem bd86 : Tryz.f86.body.isNone = false := by kernel_rfl
theorem nm87 : (Tryz.f87.name == "runtime.NumGoroutine") = false := by kernel_rfl
theorem bd87 : Tryz.f87.body.isNone = false := by kernel_rfl
theorem nm88 : (Tryz.f88.name == "runtime.NumGoroutine") = false := by kernel_rfl
theorem bd88 : Tryz.f88.body.isNone = false := by kernel_rfl
theorem nm89 : (Tryz.f89.name == "runtime.NumGoroutine") = false := by kernel_rfl
theorem bd89 : Tryz.f89.body.isNone = false := by kernel_rfl
theorem nm90 : (Tryz.f90.name == "runtime.NumGoroutine") = false := by kernel_rfl
theorem bd90 : Tryz.f90.body.isNone = false := by kernel_rfl
theorem nm91 : (Tryz.f91.name == "runtime.NumGoroutine") = false := by kernel_rfl
theorem bd91 : Tryz.f91.body.isNone = false := by kernel_rfl
theorem nm92 : (Tryz.f92.name == "runtime.NumGoroutine") = false := by kernel_rfl
theorem bd92 : Tryz.f92.body.isNone = false := by kernel_rfl
theorem nm93 : (Tryz.f93.name == "runtime.NumGoroutine") = false := by kernel_rfl
theorem bd93 : Tryz.f93.body.isNone = false := by kernel_rfl
theorem nm94 : (Tryz.f94.name == "runtime.NumGoroutine") = false := by kernel_rfl
theorem bd94 : Tryz.f94.body.isNone = false := by kernel_rfl
theorem nm95 : (Tryz.f95.name == "runtime.NumGoroutine") = false := by kernel_rfl
theorem bd95 : Tryz.f95.body.isNone = false := by kernel_rfl
theorem nm96 : (Tryz.f96.name == "runtime.NumGoroutine") = false := by kernel_rfl
theorem bd96 : Tryz.f96.body.isNone = false := by kernel_rfl
theorem nm97 : (Tryz.f97.name == "runtime.NumGoroutine") = false := by kernel_rfl
theorem bd97 : Tryz.f97.body.isNone = false := by kernel_rfl
theorem nm98 : (Tryz.f98.name == "runtime.NumGoroutine") = false := by kernel_rfl
theorem bd98 : Tryz.f98.body.isNone = false := by kernel_rfl
theorem nm99 : (Tryz.f99.name == "runtime.NumGoroutine") = false := by kernel_rfl
theorem bd99 : Tryz.f99.body.isNone = false := by kernel_rfl
theorem nm100 : (Tryz.f100.name == "runtime.NumGoroutine") = false := by kernel_rfl
theorem bd100 : Tryz.f100.body.isNone = false := by kernel_rfl
theorem nm101 : (Tryz.f101.name == "runtime.NumGoroutine") = false := by kernel_rfl
theorem bd101 : Tryz.f101.body.isNone = false := by kernel_rfl
theorem nm102 : (Tryz.f102.name == "runtime.NumGoroutine") = false := by kernel_rfl
theorem bd102 : Tryz.f102.body.isNone = false := by kernel_rfl
theorem nm103 : (Tryz.f103.name == "runtime.NumGoroutine") = false := by kernel_rfl
theorem bd103 : Tryz.f103.body.isNone = false := by kernel_rfl
theorem nm104 : (Tryz.f104.name == "runtime.NumGoroutine") = false := by kernel_rfl
theorem bd104 : Tryz.f104.body.isNone = false := by kernel_rfl
theorem nm105 : (Tryz.f105.name == "runtime.NumGoroutine") = false := by kernel_rfl
theorem bd105 : Tryz.f105.body.isNone = false := by kernel_rfl
theorem nm106 : (Tryz.f106.name == "runtime.NumGoroutine") = false := by kernel_rfl
theorem bd106 : Tryz.f106.body.isNone = false := by kernel_rfl
theorem nm107 : (Tryz.f107.name == "runtime.NumGoroutine") = false := by kernel_rfl
theorem bd107 : Tryz.f107.body.isNone = false := by kernel_rfl
theorem nm108 : (Tryz.f108.name == "runtime.NumGoroutine") = false := by kernel_rfl
theorem bd108 : Tryz.f108.body.isNone = false := by kernel_rfl
theorem nm109 : (Tryz.f109.name == "runtime.NumGoroutine") = false := by kernel_rfl
theorem bd109 : Tryz.f109.body.isNone = false := by kernel_rfl
theorem nm110 : (Tryz.f110.name == "runtime.NumGoroutine") = false := by kernel_rfl
theorem bd110 : Tryz.f110.body.isNone = false := by kernel_rfl
theorem nm111 : (Tryz.f111.name == "runtime.NumGoroutine") = false := by kernel_rfl
theorem bd111 : Tryz.f111.body.isNone = false := by kernel_rfl
theorem nm112 : (Tryz.f112.name == "runtime.NumGoroutine") = false := by kernel_rfl
theorem bd112 : Tryz.f112.body.isNone = false := by kernel_rfl
theorem nm113 : (Tryz.f113.name == "runtime.NumGoroutine") = false := by kernel_rfl
theorem bd113 : Tryz.f113.body.isNone = false := by kernel_rfl
theorem nm114 : (Tryz.f114.name == "runtime.NumGoroutine") = false := by kernel_rfl
theorem bd114 : Tryz.f114.body.isNone = false := by kernel_rfl
theorem nm115 : (Tryz.f115.name == "runtime.NumGoroutine") = false := by kernel_rfl
theorem bd115 : Tryz.f115.body.isNone = false := by kernel_rfl
theorem nm116 : (Tryz.f116.name == "runtime.NumGoroutine") = false := by kernel_rfl
theorem bd116 : Tryz.f116.body.isNone = false := by kernel_rfl
theorem nm117 : (Tryz.f117.name == "runtime.NumGoroutine") = false := by kernel_rfl
theorem bd117 : Tryz.f117.body.isNone = false := by kernel_rfl
theorem nm118 : (Tryz.f118.name == "runtime.NumGoroutine") = false := by kernel_rfl
theorem bd118 : Tryz.f118.body.isNone = false := by kernel_rfl
theorem nm119 : (Tryz.f119.name == "runtime.NumGoroutine") = false := by kernel_rfl
theorem bd119 : Tryz.f119.body.isNone = false := by kernel_rfl
theorem nm120 : (Tryz.f120.name == "runtime.NumGoroutine") = false := by kernel_rfl
theorem bd120 : Tryz.f120.body.isNone = false := by kernel_rfl
theorem nm121 : (Tryz.f121.name == "runtime.NumGoroutine") = false := by kernel_rfl
theorem bd121 : Tryz.f121.body.isNone = false := by kernel_rfl
theorem nm122 : (Tryz.f122.name == "runtime.NumGoroutine") = false := by kernel_rfl
theorem bd122 : Tryz.f122.body.isNone = false := by kernel_rfl
theorem nm123 : (Tryz.f123.name == "runtime.NumGoroutine") = false := by kernel_rfl
theorem bd123 : Tryz.f123.body.isNone = false := by kernel_rfl
theorem nm124 : (Tryz.f124.name == "runtime.NumGoroutine") = false := by kernel_rfl
theorem bd124 : Tryz.f124.body.isNone = false := by kernel_rfl
theorem nm125 : (Tryz.f125.name == "runtime.NumGoroutine") = false := by kernel_rfl
theorem bd125 : Tryz.f125.body.isNone = false := by kernel_rfl
theorem nm126 : (Tryz.f126.name == "runtime.NumGoroutine") = false := by kernel_rfl
theorem bd126 : Tryz.f126.body.isNone = false := by kernel_rfl
theorem nm127 : (Tryz.f127.name == "runtime.NumGoroutine") = false := by kernel_rfl
theorem bd127 : Tryz.f127.body.isNone = false := by kernel_rfl
theorem nm128 : (Tryz.f128.name == "runtime.NumGoroutine") = false := by kernel_rfl
theorem bd128 : Tryz.f128.body.isNone = false := by kernel_rfl
theorem nm129 : (Tryz.f129.name == "runtime.NumGoroutine") = false := by kernel_rfl
theorem bd129 : Tryz.f129.body.isNone = false := by kernel_rfl
theorem nm130 : (Tryz.f130.name == "runtime.NumGoroutine") = false := by kernel_rfl
theorem bd130 : Tryz.f130.body.isNone = false := by kernel_rfl
theorem nm131 : (Tryz.f131.name == "runtime.NumGoroutine") = false := by kernel_rfl
theorem bd131 : Tryz.f131.body.isNone = false := by kernel_rfl
theorem nm132 : (Tryz.f132.name == "runtime.NumGoroutine") = false := by kernel_rfl
theorem bd132 : Tryz.f132.body.isNone = false := by kernel_rfl
theorem nm133 : (Tryz.f133.name == "runtime.NumGoroutine") = false := by kernel_rfl
theorem bd133 : Tryz.f133.body.isNone = false := by kernel_rfl
theorem nm134 : (Tryz.f134.name == "runtime.NumGoroutine") = false := by kernel_rfl
theorem bd134 : Tryz.f134.body.isNone = false := by kernel_rfl
theorem nm135 : (Tryz.f135.name == "runtime.NumGoroutine") = false := by kernel_rfl
theorem bd135 : Tryz.f135.body.isNone = false := by kernel_rfl
theorem nm136 : (Tryz.f136.name == "runtime.NumGoroutine") = false := by kernel_rfl
theorem bd136 : Tryz.f136.body.isNone = false := by kernel_rfl
theorem nm137 : (Tryz.f137.name == "runtime.NumGoroutine") = false := by kernel_rfl
theorem bd137 : Tryz.f137.body.isNone = false := by kernel_rfl
theorem nm138 : (Tryz.f138.name == "runtime.NumGoroutine") = false := by kernel_rfl
theorem bd138 : Tryz.f138.body.isNone = false := by kernel_rfl
theorem nm139 : (Tryz.f139.name == "runtime.NumGoroutine") = false := by kernel_rfl
theorem bd139 : Tryz.f139.body.isNone = false := by kernel_rfl
theorem nm140 : (Tryz.f140.name == "runtime.NumGoroutine") = false := by kernel_rfl
theorem bd140 : Tryz.f140.body.isNone = false := by kernel_rfl
theorem nm141 : (Tryz.f141.name == "runtime.NumGoroutine") = false := by kernel_rfl
theorem bd141 : Tryz.f141.body.isNone = false := by kernel_rfl
theorem nm142 : (Tryz.f142.name == "runtime.NumGoroutine") = false := by kernel_rfl
theorem bd142 : Tryz.f142.body.isNone = false := by kernel_rfl
theorem nm143 : (Tryz.f143.name == "runtime.NumGoroutine") = false := by kernel_rfl
theorem bd143 : Tryz.f143.body.isNone = false := by kernel_rfl
theorem nm144 : (Tryz.f144.name == "runtime.NumGoroutine") = false := by kernel_rfl
theorem bd144 : Tryz.f144.body.isNone = false := by kernel_rfl
theorem nm145 : (Tryz.f145.name == "runtime.NumGoroutine") = false := by kernel_rfl
theorem bd145 : Tryz.f145.body.isNone = false := by kernel_rfl
theorem nm146 : (Tryz.f146.name == "runtime.NumGoroutine") = false := by kernel_rfl
theorem bd146 : Tryz.f146.body.isNone = false := by kernel_rfl
theorem nm147 : (Tryz.f147.name == "runtime.NumGoroutine") = false := by kernel_rfl
theorem bd147 : Tryz.f147.body.isNone = false := by kernel_rfl
theorem nm148 : (Tryz.f148.name == "runtime.NumGoroutine") = false := by kernel_rfl
theorem bd148 : Tryz.f148.body.isNone = false := by kernel_rfl
theorem nm149 : (Tryz.f149.name == "runtime.NumGoroutine") = false := by kernel_rfl
theorem bd149 : Tryz.f149.body.isNone = false := by kernel_rfl
theorem nm150 : (Tryz.f150.name == "runtime.NumGoroutine") = false := by kernel_rfl
theorem bd150 : Tryz.f150.body.isNone = false := by kernel_rfl
theorem nm151 : (Tryz.f151.name == "runtime.NumGoroutine") = false := by kernel_rfl
theorem bd151 : Tryz.f151.body.isNone = false := by kernel_rfl
theorem nm152 : (Tryz.f152.name == "runtime.NumGoroutine") = false := by kernel_rfl
theorem bd152 : Tryz.f152.body.isNone = false := by kernel_rfl
theorem nm153 : (Tryz.f153.name == "runtime.NumGoroutine") = false := by kernel_rfl
theorem bd153 : Tryz.f153.body.isNone = false := by kernel_rfl
theorem nm154 : (Tryz.f154.name == "runtime.NumGoroutine") = false := by kernel_rfl
theorem bd154 : Tryz.f154.body.isNone = false := by kernel_rfl
theorem nm155 : (Tryz.f155.name == "runtime.NumGoroutine") = false := by kernel_rfl
theorem bd155 : Tryz.f155.body.isNone = false := by kernel_rfl
theorem nm156 : (Tryz.f156.name == "runtime.NumGoroutine") = false := by kernel_rfl
theorem bd156 : Tryz.f156.body.isNone = false := by kernel_rfl
theorem nm157 : (Tryz.f157.name == "runtime.NumGoroutine") = false := by kernel_rfl
theorem bd157 : Tryz.f157.body.isNone = false := by kernel_rfl
theorem nm158 : (Tryz.f158.name == "runtime.NumGoroutine") = false := by kernel_rfl
theorem bd158 : Tryz.f158.body.isNone = false := by kernel_rfl
theorem nm159 : (Tryz.f159.name == "runtime.NumGoroutine") = false := by kernel_rfl
theorem bd159 : Tryz.f159.body.isNone = false := by kernel_rfl
theorem nm160 : (Tryz.f160.name == "runtime.NumGoroutine") = false := by kernel_rfl
theorem bd160 : Tryz.f160.body.isNone = false := by kernel_rfl
theorem nm161 : (Tryz.f161.name == "runtime.NumGoroutine") = false := by kernel_rfl
theorem bd161 : Tryz.f161.body.isNone = false := by kernel_rfl
theorem nm162 : (Tryz.f162.name == "runtime.NumGoroutine") = false := by kernel_rfl
theorem bd162 : Tryz.f162.body.isNone = false := by kernel_rfl
theorem nm163 : (Tryz.f163.name == "runtime.NumGoroutine") = false := by kernel_rfl
theorem bd163 : Tryz.f163.body.isNone = false := by kernel_rfl
theorem nm164 : (Tryz.f164.name == "runtime.NumGoroutine") = false := by kernel_rfl
theorem bd164 : Tryz.f164.body.isNone = false := by kernel_rfl
theorem nm165 : (Tryz.f165.name == "runtime.NumGoroutine") = false := by kernel_rfl
theorem bd165 : Tryz.f165.body.isNone = false := by kernel_rfl
theorem nm166 : (Tryz.f166.name == "runtime.NumGoroutine") = false := by kernel_rfl
theorem bd166 : Tryz.f166.body.isNone = false := by kernel_rfl
theorem nm167 : (Tryz.f167.name == "runtime.NumGoroutine") = false := by kernel_rfl
theorem bd167 : Tryz.f167.body.isNone = false := by kernel_rfl
theorem nm168 : (Tryz.f168.name == "runtime.NumGoroutine") = false := by kernel_rfl
theorem bd168 : Tryz.f168.body.isNone = false := by kernel_rfl
theorem nm169 : (Tryz.f169.name == "runtime.NumGoroutine") = false := by kernel_rfl
theorem bd169 : Tryz.f169.body.isNone = false := by kernel_rfl
theorem nm170 : (Tryz.f170.name == "runtime.NumGoroutine") = false := by kernel_rfl
theorem bd170 : Tryz.f170.body.isNone = false := by kernel_rfl
theorem nm171 : (Tryz.f171.name == "runtime.NumGoroutine") = false := by kernel_rfl
theorem bd171 : Tryz.f171.body.isNone = false := by kernel_rfl
theorem nm172 : (Tryz.f172.name == "runtime.NumGoroutine") = false := by kernel_rfl
theorem nm173 : (Tryz.f173.name == "runtime.NumGoroutine") = false := by kernel_rfl
theorem nm174 : (Tryz.f174.name == "runtime.NumGoroutine") = false := by kernel_rfl
theorem nm175 : (Tryz.f175.name == "runtime.NumGoroutine") = false := by kernel_rfl
theorem nm176 : (Tryz.f176.name == "runtime.NumGoroutine") = false := by kernel_rfl
theorem nm177 : (Tryz.f177.name == "runtime.NumGoroutine") = false := by kernel_rfl
theorem nm178 : (Tryz.f178.name == "runtime.NumGoroutine") = false := by kernel_rfl
theorem nm179 : (Tryz.f179.name == "runtime.NumGoroutine") = false := by kernel_rfl
theorem nm180 : (Tryz.f180.name == "runtime.NumGoroutine") = false := by kernel_rfl
theorem nm181 : (Tryz.f181.name == "runtime.NumGoroutine") = false := by kernel_rfl
theorem nm182 : (Tryz.f182.name == "runtime.NumGoroutine") = false := by kernel_rfl
theorem nm183 : (Tryz.f183.name == "runtime.NumGoroutine") = false := by kernel_rfl
theorem nm184 : (Tryz.f184.name == "runtime.NumGoroutine") = false := by kernel_rfl
theorem nm185 : (Tryz.f185.name == "runtime.NumGoroutine") = false := by kernel_rfl
theorem nm186 : (Tryz.f186.name == "runtime.NumGoroutine") = false := by kernel_rfl
theorem nm187 : (Tryz.f187.name == "runtime.NumGoroutine") = false := by kernel_rfl
theorem nm188 : (Tryz.f188.name == "runtime.NumGoroutine") = false := by kernel_rfl
theorem nm189 : (Tryz.f189.name == "runtime.NumGoroutine") = false := by kernel_rfl
theorem nm190 : (Tryz.f190.name == "runtime.NumGoroutine") = false := by kernel_rfl
theorem nm191 : (Tryz.f191.name == "runtime.NumGoroutine") = false := by kernel_rfl
theorem nm192 : (Tryz.f192.name == "runtime.NumGoroutine") = false := by kernel_rfl
theorem nm193 : (Tryz.f193.name == "runtime.NumGoroutine") = false := by kernel_rfl
theorem mixed : Tryz.prog.follows .mixedOrders = true := by kernel_rfl
end Go.Pse
