/- Closed facts on the types of the translation, by a program of this session (genty.py). -/
import Derived.Test.YtkdifbmjhkfgoaaGreatProg
import Derived.Test.YtkdifbmjhkfgoaaGreatMap
import Derived.Laws.StructEq
import Derived.KernelRfl
namespace Go.Pse
open Go.RowKit
open Go.Proofs

theorem ty3 : Ty Tryz.prog 3 1 8 false [.int .i64 0] := ⟨by kernel_rfl, by rw [Tryz.underlying3]; rfl⟩
theorem ty4 : Ty Tryz.prog 4 1 1 false [.bool false] := ⟨by kernel_rfl, by rw [Tryz.underlying4]; rfl⟩
theorem ty5 : Ty Tryz.prog 5 1 1 false [.int .u8 0] := ⟨by kernel_rfl, by rw [Tryz.underlying5]; rfl⟩
theorem ty9 : Ty Tryz.prog 9 1 16 false [.string ⟨#[]⟩] := ⟨by kernel_rfl, by rw [Tryz.underlying9]; rfl⟩
theorem ty21 : Ty Tryz.prog 21 1 4 false [.int .i32 0] := ⟨by kernel_rfl, by rw [Tryz.underlying21]; rfl⟩
theorem ty22 : Ty Tryz.prog 22 1 24 false [.slice none 0 0] := ⟨by kernel_rfl, by rw [Tryz.underlying22]; rfl⟩
theorem ty25 : Ty Tryz.prog 25 5 40 true [.int .i64 0, .int .i64 0, .int .i64 0, .int .i64 0, .bool false] := ⟨by kernel_rfl, by rw [Tryz.underlying25]; rfl⟩
theorem ty27 : Ty Tryz.prog 27 1 8 false [.pointer none] := ⟨by kernel_rfl, by rw [Tryz.underlying27]; rfl⟩
theorem ty29 : Ty Tryz.prog 29 2 32 true [.slice none 0 0, .int .i64 0] := ⟨by kernel_rfl, by rw [Tryz.underlying29]; rfl⟩
theorem ty30 : Ty Tryz.prog 30 1 8 false [.pointer none] := ⟨by kernel_rfl, by rw [Tryz.underlying30]; rfl⟩
theorem ty32 : Ty Tryz.prog 32 1 24 false [.slice none 0 0] := ⟨by kernel_rfl, by rw [Tryz.underlying32]; rfl⟩
theorem ty33 : Ty Tryz.prog 33 1 8 false [.pointer none] := ⟨by kernel_rfl, by rw [Tryz.underlying33]; rfl⟩
theorem ty37 : Ty Tryz.prog 37 1 8 false [.pointer none] := ⟨by kernel_rfl, by rw [Tryz.underlying37]; rfl⟩
theorem ty40 : Ty Tryz.prog 40 5 40 true [.int .i64 0, .int .i64 0, .int .i64 0, .int .i64 0, .int .i64 0] := ⟨by kernel_rfl, by rw [Tryz.underlying40]; rfl⟩
theorem ty44 : Ty Tryz.prog 44 2 16 true [.int .i64 0, .int .i64 0] := ⟨by kernel_rfl, by rw [Tryz.underlying44]; rfl⟩
theorem ty47 : Ty Tryz.prog 47 8 64 true [.int .i64 0, .int .i64 0, .int .i64 0, .int .i64 0, .int .i64 0, .int .i64 0, .int .i64 0, .int .i64 0] := ⟨by kernel_rfl, by rw [Tryz.underlying47]; rfl⟩
theorem ty52 : Ty Tryz.prog 52 1 8 false [.pointer none] := ⟨by kernel_rfl, by rw [Tryz.underlying52]; rfl⟩
theorem ty57 : Ty Tryz.prog 57 2 16 true [.int .i64 0, .int .i64 0] := ⟨by kernel_rfl, by rw [Tryz.underlying57]; rfl⟩
theorem ty59 : Ty Tryz.prog 59 1 8 false [.pointer none] := ⟨by kernel_rfl, by rw [Tryz.underlying59]; rfl⟩
theorem ty63 : Ty Tryz.prog 63 2 16 true [.int .i64 0, .int .i64 0] := ⟨by kernel_rfl, by rw [Tryz.underlying63]; rfl⟩
theorem ty64 : Ty Tryz.prog 64 1 8 false [.int .u64 0] := ⟨by kernel_rfl, by rw [Tryz.underlying64]; rfl⟩
theorem ty70 : Ty Tryz.prog 70 2 16 true [.int .i64 0, .int .i64 0] := ⟨by kernel_rfl, by rw [Tryz.underlying70]; rfl⟩
theorem ty71 : Ty Tryz.prog 71 1 24 false [.slice none 0 0] := ⟨by kernel_rfl, by rw [Tryz.underlying71]; rfl⟩
theorem ty74 : Ty Tryz.prog 74 1 8 false [.pointer none] := ⟨by kernel_rfl, by rw [Tryz.underlying74]; rfl⟩
theorem ty76 : Ty Tryz.prog 76 1 4 false [.int .u32 0] := ⟨by kernel_rfl, by rw [Tryz.underlying76]; rfl⟩
theorem ty79 : Ty Tryz.prog 79 1 8 false [.pointer none] := ⟨by kernel_rfl, by rw [Tryz.underlying79]; rfl⟩
theorem ty81 : Ty Tryz.prog 81 1 8 false [.pointer none] := ⟨by kernel_rfl, by rw [Tryz.underlying81]; rfl⟩
theorem ty84 : Ty Tryz.prog 84 1 24 false [.slice none 0 0] := ⟨by kernel_rfl, by rw [Tryz.underlying84]; rfl⟩
theorem ty85 : Ty Tryz.prog 85 1 8 false [.pointer none] := ⟨by kernel_rfl, by rw [Tryz.underlying85]; rfl⟩
theorem ty89 : Ty Tryz.prog 89 3 24 true [.int .i64 0, .int .i64 0, .int .i64 0] := ⟨by kernel_rfl, by rw [Tryz.underlying89]; rfl⟩
theorem ty93 : Ty Tryz.prog 93 1 8 false [.pointer none] := ⟨by kernel_rfl, by rw [Tryz.underlying93]; rfl⟩
theorem ty94 : Ty Tryz.prog 94 1 24 false [.slice none 0 0] := ⟨by kernel_rfl, by rw [Tryz.underlying94]; rfl⟩
theorem ty96 : Ty Tryz.prog 96 1 24 true [.slice none 0 0] := ⟨by kernel_rfl, by rw [Tryz.underlying96]; rfl⟩
theorem ty97 : Ty Tryz.prog 97 1 24 false [.slice none 0 0] := ⟨by kernel_rfl, by rw [Tryz.underlying97]; rfl⟩
theorem ty99 : Ty Tryz.prog 99 1 24 true [.slice none 0 0] := ⟨by kernel_rfl, by rw [Tryz.underlying99]; rfl⟩
theorem ty100 : Ty Tryz.prog 100 1 24 false [.slice none 0 0] := ⟨by kernel_rfl, by rw [Tryz.underlying100]; rfl⟩
theorem ty102 : Ty Tryz.prog 102 1 24 true [.slice none 0 0] := ⟨by kernel_rfl, by rw [Tryz.underlying102]; rfl⟩
theorem ty103 : Ty Tryz.prog 103 1 24 false [.slice none 0 0] := ⟨by kernel_rfl, by rw [Tryz.underlying103]; rfl⟩
theorem ty105 : Ty Tryz.prog 105 1 24 true [.slice none 0 0] := ⟨by kernel_rfl, by rw [Tryz.underlying105]; rfl⟩
theorem ty106 : Ty Tryz.prog 106 1 24 false [.slice none 0 0] := ⟨by kernel_rfl, by rw [Tryz.underlying106]; rfl⟩
theorem ty108 : Ty Tryz.prog 108 1 24 true [.slice none 0 0] := ⟨by kernel_rfl, by rw [Tryz.underlying108]; rfl⟩
theorem ty109 : Ty Tryz.prog 109 1 24 false [.slice none 0 0] := ⟨by kernel_rfl, by rw [Tryz.underlying109]; rfl⟩
theorem ty111 : Ty Tryz.prog 111 1 24 true [.slice none 0 0] := ⟨by kernel_rfl, by rw [Tryz.underlying111]; rfl⟩
theorem ty112 : Ty Tryz.prog 112 1 24 false [.slice none 0 0] := ⟨by kernel_rfl, by rw [Tryz.underlying112]; rfl⟩
theorem ty114 : Ty Tryz.prog 114 1 24 true [.slice none 0 0] := ⟨by kernel_rfl, by rw [Tryz.underlying114]; rfl⟩
theorem ty115 : Ty Tryz.prog 115 1 24 false [.slice none 0 0] := ⟨by kernel_rfl, by rw [Tryz.underlying115]; rfl⟩
theorem ty116 : Ty Tryz.prog 116 1 24 false [.slice none 0 0] := ⟨by kernel_rfl, by rw [Tryz.underlying116]; rfl⟩
theorem ty118 : Ty Tryz.prog 118 17 296 true [.int .i64 0, .int .i64 0, .int .i64 0, .int .i64 0, .bool false, .pointer none, .slice none 0 0, .slice none 0 0, .slice none 0 0, .slice none 0 0, .slice none 0 0, .slice none 0 0, .slice none 0 0, .int .u64 0, .slice none 0 0, .slice none 0 0, .slice none 0 0] := ⟨by kernel_rfl, by rw [Tryz.underlying118]; rfl⟩
theorem ty120 : Ty Tryz.prog 120 1 8 false [.pointer none] := ⟨by kernel_rfl, by rw [Tryz.underlying120]; rfl⟩
theorem ty122 : Ty Tryz.prog 122 1 8 false [.pointer none] := ⟨by kernel_rfl, by rw [Tryz.underlying122]; rfl⟩
theorem ty124 : Ty Tryz.prog 124 1 8 false [.pointer none] := ⟨by kernel_rfl, by rw [Tryz.underlying124]; rfl⟩
theorem ty126 : Ty Tryz.prog 126 1 8 false [.pointer none] := ⟨by kernel_rfl, by rw [Tryz.underlying126]; rfl⟩
theorem ty128 : Ty Tryz.prog 128 1 8 false [.pointer none] := ⟨by kernel_rfl, by rw [Tryz.underlying128]; rfl⟩
theorem ty133 : Ty Tryz.prog 133 1 8 false [.map none] := ⟨by kernel_rfl, by rw [Tryz.underlying133]; rfl⟩
theorem ty134 : Ty Tryz.prog 134 1 8 false [.map none] := ⟨by kernel_rfl, by rw [Tryz.underlying134]; rfl⟩
theorem ty135 : Ty Tryz.prog 135 1 8 false [.map none] := ⟨by kernel_rfl, by rw [Tryz.underlying135]; rfl⟩
theorem ty136 : Ty Tryz.prog 136 1 8 false [.map none] := ⟨by kernel_rfl, by rw [Tryz.underlying136]; rfl⟩
theorem ty137 : Ty Tryz.prog 137 1 8 false [.map none] := ⟨by kernel_rfl, by rw [Tryz.underlying137]; rfl⟩
theorem ty138 : Ty Tryz.prog 138 1 8 false [.map none] := ⟨by kernel_rfl, by rw [Tryz.underlying138]; rfl⟩
theorem ty139 : Ty Tryz.prog 139 1 8 false [.map none] := ⟨by kernel_rfl, by rw [Tryz.underlying139]; rfl⟩
theorem ty140 : Ty Tryz.prog 140 1 8 false [.map none] := ⟨by kernel_rfl, by rw [Tryz.underlying140]; rfl⟩
theorem ty141 : Ty Tryz.prog 141 1 8 false [.map none] := ⟨by kernel_rfl, by rw [Tryz.underlying141]; rfl⟩
theorem ty143 : Ty Tryz.prog 143 1 8 true [.map none] := ⟨by kernel_rfl, by rw [Tryz.underlying143]; rfl⟩
theorem ty144 : Ty Tryz.prog 144 1 8 false [.map none] := ⟨by kernel_rfl, by rw [Tryz.underlying144]; rfl⟩
theorem ty146 : Ty Tryz.prog 146 1 8 true [.map none] := ⟨by kernel_rfl, by rw [Tryz.underlying146]; rfl⟩
theorem ty147 : Ty Tryz.prog 147 1 8 false [.map none] := ⟨by kernel_rfl, by rw [Tryz.underlying147]; rfl⟩
theorem ty149 : Ty Tryz.prog 149 1 8 true [.map none] := ⟨by kernel_rfl, by rw [Tryz.underlying149]; rfl⟩
theorem ty150 : Ty Tryz.prog 150 1 24 false [.slice none 0 0] := ⟨by kernel_rfl, by rw [Tryz.underlying150]; rfl⟩
theorem ty152 : Ty Tryz.prog 152 1 24 true [.slice none 0 0] := ⟨by kernel_rfl, by rw [Tryz.underlying152]; rfl⟩
theorem ty153 : Ty Tryz.prog 153 1 8 false [.map none] := ⟨by kernel_rfl, by rw [Tryz.underlying153]; rfl⟩
theorem ty155 : Ty Tryz.prog 155 1 8 true [.map none] := ⟨by kernel_rfl, by rw [Tryz.underlying155]; rfl⟩
theorem ty156 : Ty Tryz.prog 156 1 24 false [.slice none 0 0] := ⟨by kernel_rfl, by rw [Tryz.underlying156]; rfl⟩
theorem ty158 : Ty Tryz.prog 158 1 24 true [.slice none 0 0] := ⟨by kernel_rfl, by rw [Tryz.underlying158]; rfl⟩
theorem ty160 : Ty Tryz.prog 160 1 24 true [.slice none 0 0] := ⟨by kernel_rfl, by rw [Tryz.underlying160]; rfl⟩
theorem ty162 : Ty Tryz.prog 162 23 232 true [.int .i64 0, .int .i64 0, .int .i64 0, .int .i64 0, .bool false, .pointer none, .map none, .map none, .map none, .slice none 0 0, .map none, .slice none 0 0, .slice none 0 0, .map none, .map none, .map none, .map none, .map none, .map none, .map none, .map none, .map none, .int .u64 0] := ⟨by kernel_rfl, by rw [Tryz.underlying162]; rfl⟩
theorem ty163 : Ty Tryz.prog 163 1 24 false [.slice none 0 0] := ⟨by kernel_rfl, by rw [Tryz.underlying163]; rfl⟩
theorem ty164 : Ty Tryz.prog 164 1 24 false [.slice none 0 0] := ⟨by kernel_rfl, by rw [Tryz.underlying164]; rfl⟩
theorem ty166 : Ty Tryz.prog 166 2 48 true [.slice none 0 0, .slice none 0 0] := ⟨by kernel_rfl, by rw [Tryz.underlying166]; rfl⟩
theorem ty167 : Ty Tryz.prog 167 1 24 false [.slice none 0 0] := ⟨by kernel_rfl, by rw [Tryz.underlying167]; rfl⟩
theorem ty168 : Ty Tryz.prog 168 1 8 false [.map none] := ⟨by kernel_rfl, by rw [Tryz.underlying168]; rfl⟩
theorem ty170 : Ty Tryz.prog 170 2 32 true [.slice none 0 0, .map none] := ⟨by kernel_rfl, by rw [Tryz.underlying170]; rfl⟩
theorem ty172 : Ty Tryz.prog 172 3 40 true [.int .u32 0, .slice none 0 0, .map none] := ⟨by kernel_rfl, by rw [Tryz.underlying172]; rfl⟩
theorem ty179 : Ty Tryz.prog 179 7 56 true [.int .i64 0, .int .i64 0, .int .i64 0, .int .i64 0, .int .i64 0, .int .i64 0, .int .i64 0] := ⟨by kernel_rfl, by rw [Tryz.underlying179]; rfl⟩
theorem ty187 : Ty Tryz.prog 187 2 16 true [.int .i64 0, .int .i64 0] := ⟨by kernel_rfl, by rw [Tryz.underlying187]; rfl⟩
theorem ty189 : Ty Tryz.prog 189 1 24 false [.slice none 0 0] := ⟨by kernel_rfl, by rw [Tryz.underlying189]; rfl⟩
theorem ty191 : Ty Tryz.prog 191 8 72 true [.pointer none, .int .i64 0, .int .i64 0, .int .i64 0, .int .i64 0, .int .u32 0, .int .u32 0, .slice none 0 0] := ⟨by kernel_rfl, by rw [Tryz.underlying191]; rfl⟩
theorem ty199 : Ty Tryz.prog 199 2 16 true [.int .i64 0, .int .u32 0] := ⟨by kernel_rfl, by rw [Tryz.underlying199]; rfl⟩
theorem ty203 : Ty Tryz.prog 203 4 32 true [.int .i64 0, .int .i64 0, .int .i64 0, .int .u32 0] := ⟨by kernel_rfl, by rw [Tryz.underlying203]; rfl⟩
theorem ty204 : Ty Tryz.prog 204 1 8 false [.int .u64 0] := ⟨by kernel_rfl, by rw [Tryz.underlying204]; rfl⟩
theorem ty206 : Ty Tryz.prog 206 8 64 true [.int .i64 0, .int .i64 0, .int .i64 0, .int .i64 0, .int .i64 0, .int .i64 0, .int .i64 0, .int .i64 0] := ⟨by kernel_rfl, by rw [Tryz.underlying206]; rfl⟩
theorem ty207 : Ty Tryz.prog 207 1 8 false [.pointer none] := ⟨by kernel_rfl, by rw [Tryz.underlying207]; rfl⟩
theorem ty208 : Ty Tryz.prog 208 1 8 false [.pointer none] := ⟨by kernel_rfl, by rw [Tryz.underlying208]; rfl⟩
theorem ty209 : Ty Tryz.prog 209 1 8 false [.pointer none] := ⟨by kernel_rfl, by rw [Tryz.underlying209]; rfl⟩
theorem ty210 : Ty Tryz.prog 210 1 8 false [.pointer none] := ⟨by kernel_rfl, by rw [Tryz.underlying210]; rfl⟩
theorem ty212 : Ty Tryz.prog 212 14 112 true [.int .i64 0, .pointer none, .pointer none, .pointer none, .pointer none, .int .i64 0, .int .i64 0, .int .i64 0, .int .i64 0, .int .i64 0, .int .i64 0, .int .i64 0, .int .i64 0, .int .i64 0] := ⟨by kernel_rfl, by rw [Tryz.underlying212]; rfl⟩
theorem ty214 : Ty Tryz.prog 214 8 72 true [.pointer none, .int .i64 0, .int .i64 0, .int .i64 0, .int .i64 0, .int .u32 0, .int .u32 0, .slice none 0 0] := ⟨by kernel_rfl, by rw [Tryz.underlying214]; rfl⟩
theorem ty216 : Ty Tryz.prog 216 2 16 true [.int .i64 0, .int .i64 0] := ⟨by kernel_rfl, by rw [Tryz.underlying216]; rfl⟩
theorem ty218 : Ty Tryz.prog 218 3 24 true [.int .i64 0, .int .i64 0, .bool false] := ⟨by kernel_rfl, by rw [Tryz.underlying218]; rfl⟩
theorem ty220 : Ty Tryz.prog 220 1 24 false [.slice none 0 0] := ⟨by kernel_rfl, by rw [Tryz.underlying220]; rfl⟩
theorem ty221 : Ty Tryz.prog 221 1 24 false [.slice none 0 0] := ⟨by kernel_rfl, by rw [Tryz.underlying221]; rfl⟩
theorem ty223 : Ty Tryz.prog 223 2 48 true [.slice none 0 0, .slice none 0 0] := ⟨by kernel_rfl, by rw [Tryz.underlying223]; rfl⟩
theorem ty225 : Ty Tryz.prog 225 1 24 true [.slice none 0 0] := ⟨by kernel_rfl, by rw [Tryz.underlying225]; rfl⟩
theorem ty227 : Ty Tryz.prog 227 2 32 true [.int .u32 0, .slice none 0 0] := ⟨by kernel_rfl, by rw [Tryz.underlying227]; rfl⟩
theorem ty241 : Ty Tryz.prog 241 1 24 false [.slice none 0 0] := ⟨by kernel_rfl, by rw [Tryz.underlying241]; rfl⟩
theorem ty246 : Ty Tryz.prog 246 3 24 true [.int .i64 0, .int .i64 0, .bool false] := ⟨by kernel_rfl, by rw [Tryz.underlying246]; rfl⟩
theorem ty247 : Ty Tryz.prog 247 1 8 false [.pointer none] := ⟨by kernel_rfl, by rw [Tryz.underlying247]; rfl⟩
theorem ty248 : Ty Tryz.prog 248 1 24 false [.slice none 0 0] := ⟨by kernel_rfl, by rw [Tryz.underlying248]; rfl⟩
theorem ty250 : Ty Tryz.prog 250 1 24 true [.slice none 0 0] := ⟨by kernel_rfl, by rw [Tryz.underlying250]; rfl⟩
theorem ty251 : Ty Tryz.prog 251 1 24 false [.slice none 0 0] := ⟨by kernel_rfl, by rw [Tryz.underlying251]; rfl⟩
theorem ty265 : Ty Tryz.prog 265 1 24 true [.slice none 0 0] := ⟨by kernel_rfl, by rw [Tryz.underlying265]; rfl⟩
theorem ty266 : Ty Tryz.prog 266 1 8 false [.pointer none] := ⟨by kernel_rfl, by rw [Tryz.underlying266]; rfl⟩
theorem ty271 : Ty Tryz.prog 271 9 72 true [.int .i64 0, .int .i64 0, .int .i64 0, .int .i64 0, .int .i64 0, .int .i64 0, .int .i64 0, .int .i64 0, .int .i64 0] := ⟨by kernel_rfl, by rw [Tryz.underlying271]; rfl⟩
theorem ty272 : Ty Tryz.prog 272 1 8 false [.pointer none] := ⟨by kernel_rfl, by rw [Tryz.underlying272]; rfl⟩
theorem ty275 : Ty Tryz.prog 275 4 32 true [.int .i64 0, .int .i64 0, .int .i64 0, .int .i64 0] := ⟨by kernel_rfl, by rw [Tryz.underlying275]; rfl⟩
theorem ty277 : Ty Tryz.prog 277 2 16 true [.int .i64 0, .int .i64 0] := ⟨by kernel_rfl, by rw [Tryz.underlying277]; rfl⟩
theorem ty280 : Ty Tryz.prog 280 7 48 true [.int .i64 0, .int .i64 0, .int .u32 0, .int .i64 0, .int .i64 0, .int .u32 0, .bool false] := ⟨by kernel_rfl, by rw [Tryz.underlying280]; rfl⟩
theorem ty297 : Ty Tryz.prog 297 1 8 false [.int .i64 0] := ⟨by kernel_rfl, by rw [Tryz.underlying297]; rfl⟩
theorem ty315 : Ty Tryz.prog 315 1 8 false [.int .u64 0] := ⟨by kernel_rfl, by rw [Tryz.underlying315]; rfl⟩
theorem ty318 : Ty Tryz.prog 318 1 8 false [.pointer none] := ⟨by kernel_rfl, by rw [Tryz.underlying318]; rfl⟩
theorem ty347 : Ty Tryz.prog 347 2 16 true [.int .i64 0, .int .i64 0] := ⟨by kernel_rfl, by rw [Tryz.underlying347]; rfl⟩
theorem ty349 : Ty Tryz.prog 349 3 24 true [.int .i64 0, .int .i64 0, .int .i64 0] := ⟨by kernel_rfl, by rw [Tryz.underlying349]; rfl⟩
theorem ty351 : Ty Tryz.prog 351 8 40 true [.int .i64 0, .int .i64 0, .int .u32 0, .int .u32 0, .int .u32 0, .int .u32 0, .int .u32 0, .int .u32 0] := ⟨by kernel_rfl, by rw [Tryz.underlying351]; rfl⟩
theorem ty353 : Ty Tryz.prog 353 13 72 true [.int .i64 0, .int .i64 0, .int .i64 0, .int .i64 0, .int .u32 0, .int .u32 0, .int .u32 0, .int .u32 0, .int .u32 0, .int .u32 0, .int .i64 0, .bool false, .bool false] := ⟨by kernel_rfl, by rw [Tryz.underlying353]; rfl⟩
theorem ty355 : Ty Tryz.prog 355 3 24 true [.int .u64 0, .int .i64 0, .int .i64 0] := ⟨by kernel_rfl, by rw [Tryz.underlying355]; rfl⟩
theorem ty359 : Ty Tryz.prog 359 13 72 true [.int .i64 0, .int .i64 0, .int .i64 0, .int .i64 0, .int .u32 0, .int .u32 0, .int .u32 0, .int .u32 0, .int .u32 0, .int .u32 0, .int .i64 0, .bool false, .bool false] := ⟨by kernel_rfl, by rw [Tryz.underlying359]; rfl⟩
theorem ty361 : Ty Tryz.prog 361 3 24 true [.int .u64 0, .int .i64 0, .int .i64 0] := ⟨by kernel_rfl, by rw [Tryz.underlying361]; rfl⟩
theorem ty363 : Ty Tryz.prog 363 5 40 true [.int .i64 0, .int .i64 0, .int .u32 0, .int .i64 0, .bool false] := ⟨by kernel_rfl, by rw [Tryz.underlying363]; rfl⟩
theorem ty365 : Ty Tryz.prog 365 3 24 true [.int .i64 0, .int .i64 0, .int .i64 0] := ⟨by kernel_rfl, by rw [Tryz.underlying365]; rfl⟩
theorem ty367 : Ty Tryz.prog 367 4 16 true [.int .u32 0, .int .i32 0, .int .u32 0, .int .u32 0] := ⟨by kernel_rfl, by rw [Tryz.underlying367]; rfl⟩
theorem ty370 : Ty Tryz.prog 370 5 40 true [.int .i64 0, .int .i64 0, .int .u32 0, .int .i64 0, .bool false] := ⟨by kernel_rfl, by rw [Tryz.underlying370]; rfl⟩
theorem ty371 : Ty Tryz.prog 371 3 24 true [.int .i64 0, .int .i64 0, .int .i64 0] := ⟨by kernel_rfl, by rw [Tryz.underlying371]; rfl⟩
theorem fa25_0 (a : Addr) (w : World) : (Instr.fieldAt 25 (.pointer (some a)) 0).run Tryz.prog w = .ok (.pointer (some (a.add 0))) w := by
  simp [Instr.fieldAt, run_underlying Tryz.underlying25, Instr.sureAddr, fieldPlace, ty3.sizeOf]
theorem fa25_1 (a : Addr) (w : World) : (Instr.fieldAt 25 (.pointer (some a)) 1).run Tryz.prog w = .ok (.pointer (some (a.add 1))) w := by
  simp [Instr.fieldAt, run_underlying Tryz.underlying25, Instr.sureAddr, fieldPlace, ty3.sizeOf]
theorem fa25_2 (a : Addr) (w : World) : (Instr.fieldAt 25 (.pointer (some a)) 2).run Tryz.prog w = .ok (.pointer (some (a.add 2))) w := by
  simp [Instr.fieldAt, run_underlying Tryz.underlying25, Instr.sureAddr, fieldPlace, ty3.sizeOf]
theorem fa25_3 (a : Addr) (w : World) : (Instr.fieldAt 25 (.pointer (some a)) 3).run Tryz.prog w = .ok (.pointer (some (a.add 3))) w := by
  simp [Instr.fieldAt, run_underlying Tryz.underlying25, Instr.sureAddr, fieldPlace, ty3.sizeOf]
theorem fa25_4 (a : Addr) (w : World) : (Instr.fieldAt 25 (.pointer (some a)) 4).run Tryz.prog w = .ok (.pointer (some (a.add 4))) w := by
  simp [Instr.fieldAt, run_underlying Tryz.underlying25, Instr.sureAddr, fieldPlace, ty4.sizeOf]
theorem fa29_0 (a : Addr) (w : World) : (Instr.fieldAt 29 (.pointer (some a)) 0).run Tryz.prog w = .ok (.pointer (some (a.add 0))) w := by
  simp [Instr.fieldAt, run_underlying Tryz.underlying29, Instr.sureAddr, fieldPlace, ty22.sizeOf]
theorem fa29_1 (a : Addr) (w : World) : (Instr.fieldAt 29 (.pointer (some a)) 1).run Tryz.prog w = .ok (.pointer (some (a.add 1))) w := by
  simp [Instr.fieldAt, run_underlying Tryz.underlying29, Instr.sureAddr, fieldPlace, ty3.sizeOf]
theorem fa40_0 (a : Addr) (w : World) : (Instr.fieldAt 40 (.pointer (some a)) 0).run Tryz.prog w = .ok (.pointer (some (a.add 0))) w := by
  simp [Instr.fieldAt, run_underlying Tryz.underlying40, Instr.sureAddr, fieldPlace, ty3.sizeOf]
theorem fa40_1 (a : Addr) (w : World) : (Instr.fieldAt 40 (.pointer (some a)) 1).run Tryz.prog w = .ok (.pointer (some (a.add 1))) w := by
  simp [Instr.fieldAt, run_underlying Tryz.underlying40, Instr.sureAddr, fieldPlace, ty3.sizeOf]
theorem fa40_2 (a : Addr) (w : World) : (Instr.fieldAt 40 (.pointer (some a)) 2).run Tryz.prog w = .ok (.pointer (some (a.add 2))) w := by
  simp [Instr.fieldAt, run_underlying Tryz.underlying40, Instr.sureAddr, fieldPlace, ty3.sizeOf]
theorem fa40_3 (a : Addr) (w : World) : (Instr.fieldAt 40 (.pointer (some a)) 3).run Tryz.prog w = .ok (.pointer (some (a.add 3))) w := by
  simp [Instr.fieldAt, run_underlying Tryz.underlying40, Instr.sureAddr, fieldPlace, ty3.sizeOf]
theorem fa40_4 (a : Addr) (w : World) : (Instr.fieldAt 40 (.pointer (some a)) 4).run Tryz.prog w = .ok (.pointer (some (a.add 4))) w := by
  simp [Instr.fieldAt, run_underlying Tryz.underlying40, Instr.sureAddr, fieldPlace, ty3.sizeOf]
theorem fa44_0 (a : Addr) (w : World) : (Instr.fieldAt 44 (.pointer (some a)) 0).run Tryz.prog w = .ok (.pointer (some (a.add 0))) w := by
  simp [Instr.fieldAt, run_underlying Tryz.underlying44, Instr.sureAddr, fieldPlace, ty3.sizeOf]
theorem fa44_1 (a : Addr) (w : World) : (Instr.fieldAt 44 (.pointer (some a)) 1).run Tryz.prog w = .ok (.pointer (some (a.add 1))) w := by
  simp [Instr.fieldAt, run_underlying Tryz.underlying44, Instr.sureAddr, fieldPlace, ty3.sizeOf]
theorem fa47_0 (a : Addr) (w : World) : (Instr.fieldAt 47 (.pointer (some a)) 0).run Tryz.prog w = .ok (.pointer (some (a.add 0))) w := by
  simp [Instr.fieldAt, run_underlying Tryz.underlying47, Instr.sureAddr, fieldPlace, ty3.sizeOf]
theorem fa47_1 (a : Addr) (w : World) : (Instr.fieldAt 47 (.pointer (some a)) 1).run Tryz.prog w = .ok (.pointer (some (a.add 1))) w := by
  simp [Instr.fieldAt, run_underlying Tryz.underlying47, Instr.sureAddr, fieldPlace, ty3.sizeOf]
theorem fa47_2 (a : Addr) (w : World) : (Instr.fieldAt 47 (.pointer (some a)) 2).run Tryz.prog w = .ok (.pointer (some (a.add 2))) w := by
  simp [Instr.fieldAt, run_underlying Tryz.underlying47, Instr.sureAddr, fieldPlace, ty3.sizeOf]
theorem fa47_3 (a : Addr) (w : World) : (Instr.fieldAt 47 (.pointer (some a)) 3).run Tryz.prog w = .ok (.pointer (some (a.add 3))) w := by
  simp [Instr.fieldAt, run_underlying Tryz.underlying47, Instr.sureAddr, fieldPlace, ty40.sizeOf]
theorem fa57_0 (a : Addr) (w : World) : (Instr.fieldAt 57 (.pointer (some a)) 0).run Tryz.prog w = .ok (.pointer (some (a.add 0))) w := by
  simp [Instr.fieldAt, run_underlying Tryz.underlying57, Instr.sureAddr, fieldPlace, ty3.sizeOf]
theorem fa57_1 (a : Addr) (w : World) : (Instr.fieldAt 57 (.pointer (some a)) 1).run Tryz.prog w = .ok (.pointer (some (a.add 1))) w := by
  simp [Instr.fieldAt, run_underlying Tryz.underlying57, Instr.sureAddr, fieldPlace, ty3.sizeOf]
theorem fa63_0 (a : Addr) (w : World) : (Instr.fieldAt 63 (.pointer (some a)) 0).run Tryz.prog w = .ok (.pointer (some (a.add 0))) w := by
  simp [Instr.fieldAt, run_underlying Tryz.underlying63, Instr.sureAddr, fieldPlace, ty3.sizeOf]
theorem fa63_1 (a : Addr) (w : World) : (Instr.fieldAt 63 (.pointer (some a)) 1).run Tryz.prog w = .ok (.pointer (some (a.add 1))) w := by
  simp [Instr.fieldAt, run_underlying Tryz.underlying63, Instr.sureAddr, fieldPlace, ty3.sizeOf]
theorem fa70_0 (a : Addr) (w : World) : (Instr.fieldAt 70 (.pointer (some a)) 0).run Tryz.prog w = .ok (.pointer (some (a.add 0))) w := by
  simp [Instr.fieldAt, run_underlying Tryz.underlying70, Instr.sureAddr, fieldPlace, ty3.sizeOf]
theorem fa70_1 (a : Addr) (w : World) : (Instr.fieldAt 70 (.pointer (some a)) 1).run Tryz.prog w = .ok (.pointer (some (a.add 1))) w := by
  simp [Instr.fieldAt, run_underlying Tryz.underlying70, Instr.sureAddr, fieldPlace, ty3.sizeOf]
theorem fa89_0 (a : Addr) (w : World) : (Instr.fieldAt 89 (.pointer (some a)) 0).run Tryz.prog w = .ok (.pointer (some (a.add 0))) w := by
  simp [Instr.fieldAt, run_underlying Tryz.underlying89, Instr.sureAddr, fieldPlace, ty3.sizeOf]
theorem fa89_1 (a : Addr) (w : World) : (Instr.fieldAt 89 (.pointer (some a)) 1).run Tryz.prog w = .ok (.pointer (some (a.add 1))) w := by
  simp [Instr.fieldAt, run_underlying Tryz.underlying89, Instr.sureAddr, fieldPlace, ty3.sizeOf]
theorem fa89_2 (a : Addr) (w : World) : (Instr.fieldAt 89 (.pointer (some a)) 2).run Tryz.prog w = .ok (.pointer (some (a.add 2))) w := by
  simp [Instr.fieldAt, run_underlying Tryz.underlying89, Instr.sureAddr, fieldPlace, ty3.sizeOf]
theorem fa96_0 (a : Addr) (w : World) : (Instr.fieldAt 96 (.pointer (some a)) 0).run Tryz.prog w = .ok (.pointer (some (a.add 0))) w := by
  simp [Instr.fieldAt, run_underlying Tryz.underlying96, Instr.sureAddr, fieldPlace, ty94.sizeOf]
theorem fa102_0 (a : Addr) (w : World) : (Instr.fieldAt 102 (.pointer (some a)) 0).run Tryz.prog w = .ok (.pointer (some (a.add 0))) w := by
  simp [Instr.fieldAt, run_underlying Tryz.underlying102, Instr.sureAddr, fieldPlace, ty100.sizeOf]
theorem fa105_0 (a : Addr) (w : World) : (Instr.fieldAt 105 (.pointer (some a)) 0).run Tryz.prog w = .ok (.pointer (some (a.add 0))) w := by
  simp [Instr.fieldAt, run_underlying Tryz.underlying105, Instr.sureAddr, fieldPlace, ty103.sizeOf]
theorem fa111_0 (a : Addr) (w : World) : (Instr.fieldAt 111 (.pointer (some a)) 0).run Tryz.prog w = .ok (.pointer (some (a.add 0))) w := by
  simp [Instr.fieldAt, run_underlying Tryz.underlying111, Instr.sureAddr, fieldPlace, ty109.sizeOf]
theorem fa114_0 (a : Addr) (w : World) : (Instr.fieldAt 114 (.pointer (some a)) 0).run Tryz.prog w = .ok (.pointer (some (a.add 0))) w := by
  simp [Instr.fieldAt, run_underlying Tryz.underlying114, Instr.sureAddr, fieldPlace, ty112.sizeOf]
theorem fa118_0 (a : Addr) (w : World) : (Instr.fieldAt 118 (.pointer (some a)) 0).run Tryz.prog w = .ok (.pointer (some (a.add 0))) w := by
  simp [Instr.fieldAt, run_underlying Tryz.underlying118, Instr.sureAddr, fieldPlace, ty25.sizeOf]
theorem fa118_1 (a : Addr) (w : World) : (Instr.fieldAt 118 (.pointer (some a)) 1).run Tryz.prog w = .ok (.pointer (some (a.add 5))) w := by
  simp [Instr.fieldAt, run_underlying Tryz.underlying118, Instr.sureAddr, fieldPlace, ty93.sizeOf]
theorem fa118_2 (a : Addr) (w : World) : (Instr.fieldAt 118 (.pointer (some a)) 2).run Tryz.prog w = .ok (.pointer (some (a.add 6))) w := by
  simp [Instr.fieldAt, run_underlying Tryz.underlying118, Instr.sureAddr, fieldPlace, ty96.sizeOf]
theorem fa118_4 (a : Addr) (w : World) : (Instr.fieldAt 118 (.pointer (some a)) 4).run Tryz.prog w = .ok (.pointer (some (a.add 8))) w := by
  simp [Instr.fieldAt, run_underlying Tryz.underlying118, Instr.sureAddr, fieldPlace, ty102.sizeOf]
theorem fa118_5 (a : Addr) (w : World) : (Instr.fieldAt 118 (.pointer (some a)) 5).run Tryz.prog w = .ok (.pointer (some (a.add 9))) w := by
  simp [Instr.fieldAt, run_underlying Tryz.underlying118, Instr.sureAddr, fieldPlace, ty105.sizeOf]
theorem fa118_7 (a : Addr) (w : World) : (Instr.fieldAt 118 (.pointer (some a)) 7).run Tryz.prog w = .ok (.pointer (some (a.add 11))) w := by
  simp [Instr.fieldAt, run_underlying Tryz.underlying118, Instr.sureAddr, fieldPlace, ty111.sizeOf]
theorem fa118_8 (a : Addr) (w : World) : (Instr.fieldAt 118 (.pointer (some a)) 8).run Tryz.prog w = .ok (.pointer (some (a.add 12))) w := by
  simp [Instr.fieldAt, run_underlying Tryz.underlying118, Instr.sureAddr, fieldPlace, ty114.sizeOf]
theorem fa118_9 (a : Addr) (w : World) : (Instr.fieldAt 118 (.pointer (some a)) 9).run Tryz.prog w = .ok (.pointer (some (a.add 13))) w := by
  simp [Instr.fieldAt, run_underlying Tryz.underlying118, Instr.sureAddr, fieldPlace, ty64.sizeOf]
theorem fa118_10 (a : Addr) (w : World) : (Instr.fieldAt 118 (.pointer (some a)) 10).run Tryz.prog w = .ok (.pointer (some (a.add 14))) w := by
  simp [Instr.fieldAt, run_underlying Tryz.underlying118, Instr.sureAddr, fieldPlace, ty115.sizeOf]
theorem fa118_11 (a : Addr) (w : World) : (Instr.fieldAt 118 (.pointer (some a)) 11).run Tryz.prog w = .ok (.pointer (some (a.add 15))) w := by
  simp [Instr.fieldAt, run_underlying Tryz.underlying118, Instr.sureAddr, fieldPlace, ty116.sizeOf]
theorem fa118_12 (a : Addr) (w : World) : (Instr.fieldAt 118 (.pointer (some a)) 12).run Tryz.prog w = .ok (.pointer (some (a.add 16))) w := by
  simp [Instr.fieldAt, run_underlying Tryz.underlying118, Instr.sureAddr, fieldPlace, ty22.sizeOf]
theorem fa143_0 (a : Addr) (w : World) : (Instr.fieldAt 143 (.pointer (some a)) 0).run Tryz.prog w = .ok (.pointer (some (a.add 0))) w := by
  simp [Instr.fieldAt, run_underlying Tryz.underlying143, Instr.sureAddr, fieldPlace, ty141.sizeOf]
theorem fa149_0 (a : Addr) (w : World) : (Instr.fieldAt 149 (.pointer (some a)) 0).run Tryz.prog w = .ok (.pointer (some (a.add 0))) w := by
  simp [Instr.fieldAt, run_underlying Tryz.underlying149, Instr.sureAddr, fieldPlace, ty147.sizeOf]
theorem fa152_0 (a : Addr) (w : World) : (Instr.fieldAt 152 (.pointer (some a)) 0).run Tryz.prog w = .ok (.pointer (some (a.add 0))) w := by
  simp [Instr.fieldAt, run_underlying Tryz.underlying152, Instr.sureAddr, fieldPlace, ty150.sizeOf]
theorem fa158_0 (a : Addr) (w : World) : (Instr.fieldAt 158 (.pointer (some a)) 0).run Tryz.prog w = .ok (.pointer (some (a.add 0))) w := by
  simp [Instr.fieldAt, run_underlying Tryz.underlying158, Instr.sureAddr, fieldPlace, ty156.sizeOf]
theorem fa160_0 (a : Addr) (w : World) : (Instr.fieldAt 160 (.pointer (some a)) 0).run Tryz.prog w = .ok (.pointer (some (a.add 0))) w := by
  simp [Instr.fieldAt, run_underlying Tryz.underlying160, Instr.sureAddr, fieldPlace, ty112.sizeOf]
theorem fa162_0 (a : Addr) (w : World) : (Instr.fieldAt 162 (.pointer (some a)) 0).run Tryz.prog w = .ok (.pointer (some (a.add 0))) w := by
  simp [Instr.fieldAt, run_underlying Tryz.underlying162, Instr.sureAddr, fieldPlace, ty25.sizeOf]
theorem fa162_1 (a : Addr) (w : World) : (Instr.fieldAt 162 (.pointer (some a)) 1).run Tryz.prog w = .ok (.pointer (some (a.add 5))) w := by
  simp [Instr.fieldAt, run_underlying Tryz.underlying162, Instr.sureAddr, fieldPlace, ty120.sizeOf]
theorem fa162_2 (a : Addr) (w : World) : (Instr.fieldAt 162 (.pointer (some a)) 2).run Tryz.prog w = .ok (.pointer (some (a.add 6))) w := by
  simp [Instr.fieldAt, run_underlying Tryz.underlying162, Instr.sureAddr, fieldPlace, ty143.sizeOf]
theorem fa162_3 (a : Addr) (w : World) : (Instr.fieldAt 162 (.pointer (some a)) 3).run Tryz.prog w = .ok (.pointer (some (a.add 7))) w := by
  simp [Instr.fieldAt, run_underlying Tryz.underlying162, Instr.sureAddr, fieldPlace, ty146.sizeOf]
theorem fa162_4 (a : Addr) (w : World) : (Instr.fieldAt 162 (.pointer (some a)) 4).run Tryz.prog w = .ok (.pointer (some (a.add 8))) w := by
  simp [Instr.fieldAt, run_underlying Tryz.underlying162, Instr.sureAddr, fieldPlace, ty149.sizeOf]
theorem fa162_5 (a : Addr) (w : World) : (Instr.fieldAt 162 (.pointer (some a)) 5).run Tryz.prog w = .ok (.pointer (some (a.add 9))) w := by
  simp [Instr.fieldAt, run_underlying Tryz.underlying162, Instr.sureAddr, fieldPlace, ty152.sizeOf]
theorem fa162_6 (a : Addr) (w : World) : (Instr.fieldAt 162 (.pointer (some a)) 6).run Tryz.prog w = .ok (.pointer (some (a.add 10))) w := by
  simp [Instr.fieldAt, run_underlying Tryz.underlying162, Instr.sureAddr, fieldPlace, ty155.sizeOf]
theorem fa162_7 (a : Addr) (w : World) : (Instr.fieldAt 162 (.pointer (some a)) 7).run Tryz.prog w = .ok (.pointer (some (a.add 11))) w := by
  simp [Instr.fieldAt, run_underlying Tryz.underlying162, Instr.sureAddr, fieldPlace, ty158.sizeOf]
theorem fa162_8 (a : Addr) (w : World) : (Instr.fieldAt 162 (.pointer (some a)) 8).run Tryz.prog w = .ok (.pointer (some (a.add 12))) w := by
  simp [Instr.fieldAt, run_underlying Tryz.underlying162, Instr.sureAddr, fieldPlace, ty160.sizeOf]
theorem fa162_9 (a : Addr) (w : World) : (Instr.fieldAt 162 (.pointer (some a)) 9).run Tryz.prog w = .ok (.pointer (some (a.add 13))) w := by
  simp [Instr.fieldAt, run_underlying Tryz.underlying162, Instr.sureAddr, fieldPlace, ty133.sizeOf]
theorem fa162_10 (a : Addr) (w : World) : (Instr.fieldAt 162 (.pointer (some a)) 10).run Tryz.prog w = .ok (.pointer (some (a.add 14))) w := by
  simp [Instr.fieldAt, run_underlying Tryz.underlying162, Instr.sureAddr, fieldPlace, ty134.sizeOf]
theorem fa162_11 (a : Addr) (w : World) : (Instr.fieldAt 162 (.pointer (some a)) 11).run Tryz.prog w = .ok (.pointer (some (a.add 15))) w := by
  simp [Instr.fieldAt, run_underlying Tryz.underlying162, Instr.sureAddr, fieldPlace, ty135.sizeOf]
theorem fa162_12 (a : Addr) (w : World) : (Instr.fieldAt 162 (.pointer (some a)) 12).run Tryz.prog w = .ok (.pointer (some (a.add 16))) w := by
  simp [Instr.fieldAt, run_underlying Tryz.underlying162, Instr.sureAddr, fieldPlace, ty136.sizeOf]
theorem fa162_13 (a : Addr) (w : World) : (Instr.fieldAt 162 (.pointer (some a)) 13).run Tryz.prog w = .ok (.pointer (some (a.add 17))) w := by
  simp [Instr.fieldAt, run_underlying Tryz.underlying162, Instr.sureAddr, fieldPlace, ty137.sizeOf]
theorem fa162_14 (a : Addr) (w : World) : (Instr.fieldAt 162 (.pointer (some a)) 14).run Tryz.prog w = .ok (.pointer (some (a.add 18))) w := by
  simp [Instr.fieldAt, run_underlying Tryz.underlying162, Instr.sureAddr, fieldPlace, ty138.sizeOf]
theorem fa162_15 (a : Addr) (w : World) : (Instr.fieldAt 162 (.pointer (some a)) 15).run Tryz.prog w = .ok (.pointer (some (a.add 19))) w := by
  simp [Instr.fieldAt, run_underlying Tryz.underlying162, Instr.sureAddr, fieldPlace, ty139.sizeOf]
theorem fa162_16 (a : Addr) (w : World) : (Instr.fieldAt 162 (.pointer (some a)) 16).run Tryz.prog w = .ok (.pointer (some (a.add 20))) w := by
  simp [Instr.fieldAt, run_underlying Tryz.underlying162, Instr.sureAddr, fieldPlace, ty140.sizeOf]
theorem fa162_17 (a : Addr) (w : World) : (Instr.fieldAt 162 (.pointer (some a)) 17).run Tryz.prog w = .ok (.pointer (some (a.add 21))) w := by
  simp [Instr.fieldAt, run_underlying Tryz.underlying162, Instr.sureAddr, fieldPlace, ty139.sizeOf]
theorem fa162_18 (a : Addr) (w : World) : (Instr.fieldAt 162 (.pointer (some a)) 18).run Tryz.prog w = .ok (.pointer (some (a.add 22))) w := by
  simp [Instr.fieldAt, run_underlying Tryz.underlying162, Instr.sureAddr, fieldPlace, ty64.sizeOf]
theorem fa179_0 (a : Addr) (w : World) : (Instr.fieldAt 179 (.pointer (some a)) 0).run Tryz.prog w = .ok (.pointer (some (a.add 0))) w := by
  simp [Instr.fieldAt, run_underlying Tryz.underlying179, Instr.sureAddr, fieldPlace, ty40.sizeOf]
theorem fa187_0 (a : Addr) (w : World) : (Instr.fieldAt 187 (.pointer (some a)) 0).run Tryz.prog w = .ok (.pointer (some (a.add 0))) w := by
  simp [Instr.fieldAt, run_underlying Tryz.underlying187, Instr.sureAddr, fieldPlace, ty3.sizeOf]
theorem fa187_1 (a : Addr) (w : World) : (Instr.fieldAt 187 (.pointer (some a)) 1).run Tryz.prog w = .ok (.pointer (some (a.add 1))) w := by
  simp [Instr.fieldAt, run_underlying Tryz.underlying187, Instr.sureAddr, fieldPlace, ty3.sizeOf]
theorem fa191_1 (a : Addr) (w : World) : (Instr.fieldAt 191 (.pointer (some a)) 1).run Tryz.prog w = .ok (.pointer (some (a.add 1))) w := by
  simp [Instr.fieldAt, run_underlying Tryz.underlying191, Instr.sureAddr, fieldPlace, ty3.sizeOf]
theorem fa191_2 (a : Addr) (w : World) : (Instr.fieldAt 191 (.pointer (some a)) 2).run Tryz.prog w = .ok (.pointer (some (a.add 2))) w := by
  simp [Instr.fieldAt, run_underlying Tryz.underlying191, Instr.sureAddr, fieldPlace, ty3.sizeOf]
theorem fa199_0 (a : Addr) (w : World) : (Instr.fieldAt 199 (.pointer (some a)) 0).run Tryz.prog w = .ok (.pointer (some (a.add 0))) w := by
  simp [Instr.fieldAt, run_underlying Tryz.underlying199, Instr.sureAddr, fieldPlace, ty3.sizeOf]
theorem fa199_1 (a : Addr) (w : World) : (Instr.fieldAt 199 (.pointer (some a)) 1).run Tryz.prog w = .ok (.pointer (some (a.add 1))) w := by
  simp [Instr.fieldAt, run_underlying Tryz.underlying199, Instr.sureAddr, fieldPlace, ty76.sizeOf]
theorem fa203_0 (a : Addr) (w : World) : (Instr.fieldAt 203 (.pointer (some a)) 0).run Tryz.prog w = .ok (.pointer (some (a.add 0))) w := by
  simp [Instr.fieldAt, run_underlying Tryz.underlying203, Instr.sureAddr, fieldPlace, ty3.sizeOf]
theorem fa203_1 (a : Addr) (w : World) : (Instr.fieldAt 203 (.pointer (some a)) 1).run Tryz.prog w = .ok (.pointer (some (a.add 1))) w := by
  simp [Instr.fieldAt, run_underlying Tryz.underlying203, Instr.sureAddr, fieldPlace, ty3.sizeOf]
theorem fa203_2 (a : Addr) (w : World) : (Instr.fieldAt 203 (.pointer (some a)) 2).run Tryz.prog w = .ok (.pointer (some (a.add 2))) w := by
  simp [Instr.fieldAt, run_underlying Tryz.underlying203, Instr.sureAddr, fieldPlace, ty3.sizeOf]
theorem fa203_3 (a : Addr) (w : World) : (Instr.fieldAt 203 (.pointer (some a)) 3).run Tryz.prog w = .ok (.pointer (some (a.add 3))) w := by
  simp [Instr.fieldAt, run_underlying Tryz.underlying203, Instr.sureAddr, fieldPlace, ty76.sizeOf]
theorem fa206_0 (a : Addr) (w : World) : (Instr.fieldAt 206 (.pointer (some a)) 0).run Tryz.prog w = .ok (.pointer (some (a.add 0))) w := by
  simp [Instr.fieldAt, run_underlying Tryz.underlying206, Instr.sureAddr, fieldPlace, ty3.sizeOf]
theorem fa206_1 (a : Addr) (w : World) : (Instr.fieldAt 206 (.pointer (some a)) 1).run Tryz.prog w = .ok (.pointer (some (a.add 1))) w := by
  simp [Instr.fieldAt, run_underlying Tryz.underlying206, Instr.sureAddr, fieldPlace, ty3.sizeOf]
theorem fa206_2 (a : Addr) (w : World) : (Instr.fieldAt 206 (.pointer (some a)) 2).run Tryz.prog w = .ok (.pointer (some (a.add 2))) w := by
  simp [Instr.fieldAt, run_underlying Tryz.underlying206, Instr.sureAddr, fieldPlace, ty3.sizeOf]
theorem fa206_3 (a : Addr) (w : World) : (Instr.fieldAt 206 (.pointer (some a)) 3).run Tryz.prog w = .ok (.pointer (some (a.add 3))) w := by
  simp [Instr.fieldAt, run_underlying Tryz.underlying206, Instr.sureAddr, fieldPlace, ty40.sizeOf]
theorem fa212_0 (a : Addr) (w : World) : (Instr.fieldAt 212 (.pointer (some a)) 0).run Tryz.prog w = .ok (.pointer (some (a.add 0))) w := by
  simp [Instr.fieldAt, run_underlying Tryz.underlying212, Instr.sureAddr, fieldPlace, ty3.sizeOf]
theorem fa212_1 (a : Addr) (w : World) : (Instr.fieldAt 212 (.pointer (some a)) 1).run Tryz.prog w = .ok (.pointer (some (a.add 1))) w := by
  simp [Instr.fieldAt, run_underlying Tryz.underlying212, Instr.sureAddr, fieldPlace, ty207.sizeOf]
theorem fa212_2 (a : Addr) (w : World) : (Instr.fieldAt 212 (.pointer (some a)) 2).run Tryz.prog w = .ok (.pointer (some (a.add 2))) w := by
  simp [Instr.fieldAt, run_underlying Tryz.underlying212, Instr.sureAddr, fieldPlace, ty208.sizeOf]
theorem fa212_3 (a : Addr) (w : World) : (Instr.fieldAt 212 (.pointer (some a)) 3).run Tryz.prog w = .ok (.pointer (some (a.add 3))) w := by
  simp [Instr.fieldAt, run_underlying Tryz.underlying212, Instr.sureAddr, fieldPlace, ty209.sizeOf]
theorem fa212_4 (a : Addr) (w : World) : (Instr.fieldAt 212 (.pointer (some a)) 4).run Tryz.prog w = .ok (.pointer (some (a.add 4))) w := by
  simp [Instr.fieldAt, run_underlying Tryz.underlying212, Instr.sureAddr, fieldPlace, ty210.sizeOf]
theorem fa212_5 (a : Addr) (w : World) : (Instr.fieldAt 212 (.pointer (some a)) 5).run Tryz.prog w = .ok (.pointer (some (a.add 5))) w := by
  simp [Instr.fieldAt, run_underlying Tryz.underlying212, Instr.sureAddr, fieldPlace, ty206.sizeOf]
theorem fa212_6 (a : Addr) (w : World) : (Instr.fieldAt 212 (.pointer (some a)) 6).run Tryz.prog w = .ok (.pointer (some (a.add 13))) w := by
  simp [Instr.fieldAt, run_underlying Tryz.underlying212, Instr.sureAddr, fieldPlace, ty3.sizeOf]
theorem fa250_0 (a : Addr) (w : World) : (Instr.fieldAt 250 (.pointer (some a)) 0).run Tryz.prog w = .ok (.pointer (some (a.add 0))) w := by
  simp [Instr.fieldAt, run_underlying Tryz.underlying250, Instr.sureAddr, fieldPlace, ty248.sizeOf]
theorem fa265_0 (a : Addr) (w : World) : (Instr.fieldAt 265 (.pointer (some a)) 0).run Tryz.prog w = .ok (.pointer (some (a.add 0))) w := by
  simp [Instr.fieldAt, run_underlying Tryz.underlying265, Instr.sureAddr, fieldPlace, ty248.sizeOf]
theorem fa271_0 (a : Addr) (w : World) : (Instr.fieldAt 271 (.pointer (some a)) 0).run Tryz.prog w = .ok (.pointer (some (a.add 0))) w := by
  simp [Instr.fieldAt, run_underlying Tryz.underlying271, Instr.sureAddr, fieldPlace, ty44.sizeOf]
theorem fa271_1 (a : Addr) (w : World) : (Instr.fieldAt 271 (.pointer (some a)) 1).run Tryz.prog w = .ok (.pointer (some (a.add 2))) w := by
  simp [Instr.fieldAt, run_underlying Tryz.underlying271, Instr.sureAddr, fieldPlace, ty44.sizeOf]
theorem fa271_2 (a : Addr) (w : World) : (Instr.fieldAt 271 (.pointer (some a)) 2).run Tryz.prog w = .ok (.pointer (some (a.add 4))) w := by
  simp [Instr.fieldAt, run_underlying Tryz.underlying271, Instr.sureAddr, fieldPlace, ty40.sizeOf]
theorem fa275_0 (a : Addr) (w : World) : (Instr.fieldAt 275 (.pointer (some a)) 0).run Tryz.prog w = .ok (.pointer (some (a.add 0))) w := by
  simp [Instr.fieldAt, run_underlying Tryz.underlying275, Instr.sureAddr, fieldPlace, ty63.sizeOf]
theorem fa275_1 (a : Addr) (w : World) : (Instr.fieldAt 275 (.pointer (some a)) 1).run Tryz.prog w = .ok (.pointer (some (a.add 2))) w := by
  simp [Instr.fieldAt, run_underlying Tryz.underlying275, Instr.sureAddr, fieldPlace, ty57.sizeOf]
theorem fa277_0 (a : Addr) (w : World) : (Instr.fieldAt 277 (.pointer (some a)) 0).run Tryz.prog w = .ok (.pointer (some (a.add 0))) w := by
  simp [Instr.fieldAt, run_underlying Tryz.underlying277, Instr.sureAddr, fieldPlace, ty3.sizeOf]
theorem fa277_1 (a : Addr) (w : World) : (Instr.fieldAt 277 (.pointer (some a)) 1).run Tryz.prog w = .ok (.pointer (some (a.add 1))) w := by
  simp [Instr.fieldAt, run_underlying Tryz.underlying277, Instr.sureAddr, fieldPlace, ty3.sizeOf]
theorem fa280_0 (a : Addr) (w : World) : (Instr.fieldAt 280 (.pointer (some a)) 0).run Tryz.prog w = .ok (.pointer (some (a.add 0))) w := by
  simp [Instr.fieldAt, run_underlying Tryz.underlying280, Instr.sureAddr, fieldPlace, ty216.sizeOf]
theorem fa280_1 (a : Addr) (w : World) : (Instr.fieldAt 280 (.pointer (some a)) 1).run Tryz.prog w = .ok (.pointer (some (a.add 2))) w := by
  simp [Instr.fieldAt, run_underlying Tryz.underlying280, Instr.sureAddr, fieldPlace, ty76.sizeOf]
theorem fa280_2 (a : Addr) (w : World) : (Instr.fieldAt 280 (.pointer (some a)) 2).run Tryz.prog w = .ok (.pointer (some (a.add 3))) w := by
  simp [Instr.fieldAt, run_underlying Tryz.underlying280, Instr.sureAddr, fieldPlace, ty3.sizeOf]
theorem fa280_3 (a : Addr) (w : World) : (Instr.fieldAt 280 (.pointer (some a)) 3).run Tryz.prog w = .ok (.pointer (some (a.add 4))) w := by
  simp [Instr.fieldAt, run_underlying Tryz.underlying280, Instr.sureAddr, fieldPlace, ty3.sizeOf]
theorem fa280_4 (a : Addr) (w : World) : (Instr.fieldAt 280 (.pointer (some a)) 4).run Tryz.prog w = .ok (.pointer (some (a.add 5))) w := by
  simp [Instr.fieldAt, run_underlying Tryz.underlying280, Instr.sureAddr, fieldPlace, ty76.sizeOf]
theorem fa280_5 (a : Addr) (w : World) : (Instr.fieldAt 280 (.pointer (some a)) 5).run Tryz.prog w = .ok (.pointer (some (a.add 6))) w := by
  simp [Instr.fieldAt, run_underlying Tryz.underlying280, Instr.sureAddr, fieldPlace, ty4.sizeOf]
theorem fd179_1 {c0 c1 c2 c3 c4 c5 c6 : Value} (w : World) : (Instr.field 179 (.agg #[c0, c1, c2, c3, c4, c5, c6]) 1).run Tryz.prog w = .ok (.agg #[c5, c6]) w := by
  simp [Instr.field, run_underlying Tryz.underlying179, part, asAgg, ty44.isAgg, ty44.sizeOf]
theorem bld25 {F : Env} {n : Nat} {dst : Option Tmp} {T : TypeId} {p : String} {e : Array Edge} {g : Option (Nat × Bool)} {parts : Array (Nat × Operand)} {ps : List (Nat × Value)} {cs : List Value} (hps : Parts F parts.toList ps) (h : Fil [(0, 1), (1, 1), (2, 1), (3, 1), (4, 1)] ps [.int .i64 0, .int .i64 0, .int .i64 0, .int .i64 0, .bool false] cs) : Pur Tryz.prog ⟨dst, .build 25 parts, T, p, e, g⟩ F n (.agg cs.toArray) :=
  p_build ty25 Tryz.underlying25 (by intro w; simp [ty3.sizeOf, ty4.sizeOf]) hps h
theorem bld29 {F : Env} {n : Nat} {dst : Option Tmp} {T : TypeId} {p : String} {e : Array Edge} {g : Option (Nat × Bool)} {parts : Array (Nat × Operand)} {ps : List (Nat × Value)} {cs : List Value} (hps : Parts F parts.toList ps) (h : Fil [(0, 1), (1, 1)] ps [.slice none 0 0, .int .i64 0] cs) : Pur Tryz.prog ⟨dst, .build 29 parts, T, p, e, g⟩ F n (.agg cs.toArray) :=
  p_build ty29 Tryz.underlying29 (by intro w; simp [ty22.sizeOf, ty3.sizeOf]) hps h
theorem bld40 {F : Env} {n : Nat} {dst : Option Tmp} {T : TypeId} {p : String} {e : Array Edge} {g : Option (Nat × Bool)} {parts : Array (Nat × Operand)} {ps : List (Nat × Value)} {cs : List Value} (hps : Parts F parts.toList ps) (h : Fil [(0, 1), (1, 1), (2, 1), (3, 1), (4, 1)] ps [.int .i64 0, .int .i64 0, .int .i64 0, .int .i64 0, .int .i64 0] cs) : Pur Tryz.prog ⟨dst, .build 40 parts, T, p, e, g⟩ F n (.agg cs.toArray) :=
  p_build ty40 Tryz.underlying40 (by intro w; simp [ty3.sizeOf]) hps h
theorem bld44 {F : Env} {n : Nat} {dst : Option Tmp} {T : TypeId} {p : String} {e : Array Edge} {g : Option (Nat × Bool)} {parts : Array (Nat × Operand)} {ps : List (Nat × Value)} {cs : List Value} (hps : Parts F parts.toList ps) (h : Fil [(0, 1), (1, 1)] ps [.int .i64 0, .int .i64 0] cs) : Pur Tryz.prog ⟨dst, .build 44 parts, T, p, e, g⟩ F n (.agg cs.toArray) :=
  p_build ty44 Tryz.underlying44 (by intro w; simp [ty3.sizeOf]) hps h
theorem bld47 {F : Env} {n : Nat} {dst : Option Tmp} {T : TypeId} {p : String} {e : Array Edge} {g : Option (Nat × Bool)} {parts : Array (Nat × Operand)} {ps : List (Nat × Value)} {cs : List Value} (hps : Parts F parts.toList ps) (h : Fil [(0, 1), (1, 1), (2, 1), (3, 5)] ps [.int .i64 0, .int .i64 0, .int .i64 0, .int .i64 0, .int .i64 0, .int .i64 0, .int .i64 0, .int .i64 0] cs) : Pur Tryz.prog ⟨dst, .build 47 parts, T, p, e, g⟩ F n (.agg cs.toArray) :=
  p_build ty47 Tryz.underlying47 (by intro w; simp [ty3.sizeOf, ty40.sizeOf]) hps h
theorem bld57 {F : Env} {n : Nat} {dst : Option Tmp} {T : TypeId} {p : String} {e : Array Edge} {g : Option (Nat × Bool)} {parts : Array (Nat × Operand)} {ps : List (Nat × Value)} {cs : List Value} (hps : Parts F parts.toList ps) (h : Fil [(0, 1), (1, 1)] ps [.int .i64 0, .int .i64 0] cs) : Pur Tryz.prog ⟨dst, .build 57 parts, T, p, e, g⟩ F n (.agg cs.toArray) :=
  p_build ty57 Tryz.underlying57 (by intro w; simp [ty3.sizeOf]) hps h
theorem bld63 {F : Env} {n : Nat} {dst : Option Tmp} {T : TypeId} {p : String} {e : Array Edge} {g : Option (Nat × Bool)} {parts : Array (Nat × Operand)} {ps : List (Nat × Value)} {cs : List Value} (hps : Parts F parts.toList ps) (h : Fil [(0, 1), (1, 1)] ps [.int .i64 0, .int .i64 0] cs) : Pur Tryz.prog ⟨dst, .build 63 parts, T, p, e, g⟩ F n (.agg cs.toArray) :=
  p_build ty63 Tryz.underlying63 (by intro w; simp [ty3.sizeOf]) hps h
theorem bld70 {F : Env} {n : Nat} {dst : Option Tmp} {T : TypeId} {p : String} {e : Array Edge} {g : Option (Nat × Bool)} {parts : Array (Nat × Operand)} {ps : List (Nat × Value)} {cs : List Value} (hps : Parts F parts.toList ps) (h : Fil [(0, 1), (1, 1)] ps [.int .i64 0, .int .i64 0] cs) : Pur Tryz.prog ⟨dst, .build 70 parts, T, p, e, g⟩ F n (.agg cs.toArray) :=
  p_build ty70 Tryz.underlying70 (by intro w; simp [ty3.sizeOf]) hps h
theorem bld118 {F : Env} {n : Nat} {dst : Option Tmp} {T : TypeId} {p : String} {e : Array Edge} {g : Option (Nat × Bool)} {parts : Array (Nat × Operand)} {ps : List (Nat × Value)} {cs : List Value} (hps : Parts F parts.toList ps) (h : Fil [(0, 5), (5, 1), (6, 1), (7, 1), (8, 1), (9, 1), (10, 1), (11, 1), (12, 1), (13, 1), (14, 1), (15, 1), (16, 1)] ps [.int .i64 0, .int .i64 0, .int .i64 0, .int .i64 0, .bool false, .pointer none, .slice none 0 0, .slice none 0 0, .slice none 0 0, .slice none 0 0, .slice none 0 0, .slice none 0 0, .slice none 0 0, .int .u64 0, .slice none 0 0, .slice none 0 0, .slice none 0 0] cs) : Pur Tryz.prog ⟨dst, .build 118 parts, T, p, e, g⟩ F n (.agg cs.toArray) :=
  p_build ty118 Tryz.underlying118 (by intro w; simp [ty102.sizeOf, ty105.sizeOf, ty108.sizeOf, ty111.sizeOf, ty114.sizeOf, ty115.sizeOf, ty116.sizeOf, ty22.sizeOf, ty25.sizeOf, ty64.sizeOf, ty93.sizeOf, ty96.sizeOf, ty99.sizeOf]) hps h
theorem bld162 {F : Env} {n : Nat} {dst : Option Tmp} {T : TypeId} {p : String} {e : Array Edge} {g : Option (Nat × Bool)} {parts : Array (Nat × Operand)} {ps : List (Nat × Value)} {cs : List Value} (hps : Parts F parts.toList ps) (h : Fil [(0, 5), (5, 1), (6, 1), (7, 1), (8, 1), (9, 1), (10, 1), (11, 1), (12, 1), (13, 1), (14, 1), (15, 1), (16, 1), (17, 1), (18, 1), (19, 1), (20, 1), (21, 1), (22, 1)] ps [.int .i64 0, .int .i64 0, .int .i64 0, .int .i64 0, .bool false, .pointer none, .map none, .map none, .map none, .slice none 0 0, .map none, .slice none 0 0, .slice none 0 0, .map none, .map none, .map none, .map none, .map none, .map none, .map none, .map none, .map none, .int .u64 0] cs) : Pur Tryz.prog ⟨dst, .build 162 parts, T, p, e, g⟩ F n (.agg cs.toArray) :=
  p_build ty162 Tryz.underlying162 (by intro w; simp [ty120.sizeOf, ty133.sizeOf, ty134.sizeOf, ty135.sizeOf, ty136.sizeOf, ty137.sizeOf, ty138.sizeOf, ty139.sizeOf, ty140.sizeOf, ty143.sizeOf, ty146.sizeOf, ty149.sizeOf, ty152.sizeOf, ty155.sizeOf, ty158.sizeOf, ty160.sizeOf, ty25.sizeOf, ty64.sizeOf]) hps h
theorem bld166 {F : Env} {n : Nat} {dst : Option Tmp} {T : TypeId} {p : String} {e : Array Edge} {g : Option (Nat × Bool)} {parts : Array (Nat × Operand)} {ps : List (Nat × Value)} {cs : List Value} (hps : Parts F parts.toList ps) (h : Fil [(0, 1), (1, 1)] ps [.slice none 0 0, .slice none 0 0] cs) : Pur Tryz.prog ⟨dst, .build 166 parts, T, p, e, g⟩ F n (.agg cs.toArray) :=
  p_build ty166 Tryz.underlying166 (by intro w; simp [ty163.sizeOf, ty164.sizeOf]) hps h
theorem bld172 {F : Env} {n : Nat} {dst : Option Tmp} {T : TypeId} {p : String} {e : Array Edge} {g : Option (Nat × Bool)} {parts : Array (Nat × Operand)} {ps : List (Nat × Value)} {cs : List Value} (hps : Parts F parts.toList ps) (h : Fil [(0, 1), (1, 2)] ps [.int .u32 0, .slice none 0 0, .map none] cs) : Pur Tryz.prog ⟨dst, .build 172 parts, T, p, e, g⟩ F n (.agg cs.toArray) :=
  p_build ty172 Tryz.underlying172 (by intro w; simp [ty170.sizeOf, ty76.sizeOf]) hps h
theorem bld179 {F : Env} {n : Nat} {dst : Option Tmp} {T : TypeId} {p : String} {e : Array Edge} {g : Option (Nat × Bool)} {parts : Array (Nat × Operand)} {ps : List (Nat × Value)} {cs : List Value} (hps : Parts F parts.toList ps) (h : Fil [(0, 5), (5, 2)] ps [.int .i64 0, .int .i64 0, .int .i64 0, .int .i64 0, .int .i64 0, .int .i64 0, .int .i64 0] cs) : Pur Tryz.prog ⟨dst, .build 179 parts, T, p, e, g⟩ F n (.agg cs.toArray) :=
  p_build ty179 Tryz.underlying179 (by intro w; simp [ty40.sizeOf, ty44.sizeOf]) hps h
theorem bld187 {F : Env} {n : Nat} {dst : Option Tmp} {T : TypeId} {p : String} {e : Array Edge} {g : Option (Nat × Bool)} {parts : Array (Nat × Operand)} {ps : List (Nat × Value)} {cs : List Value} (hps : Parts F parts.toList ps) (h : Fil [(0, 1), (1, 1)] ps [.int .i64 0, .int .i64 0] cs) : Pur Tryz.prog ⟨dst, .build 187 parts, T, p, e, g⟩ F n (.agg cs.toArray) :=
  p_build ty187 Tryz.underlying187 (by intro w; simp [ty3.sizeOf]) hps h
theorem bld191 {F : Env} {n : Nat} {dst : Option Tmp} {T : TypeId} {p : String} {e : Array Edge} {g : Option (Nat × Bool)} {parts : Array (Nat × Operand)} {ps : List (Nat × Value)} {cs : List Value} (hps : Parts F parts.toList ps) (h : Fil [(0, 1), (1, 1), (2, 1), (3, 1), (4, 1), (5, 1), (6, 1), (7, 1)] ps [.pointer none, .int .i64 0, .int .i64 0, .int .i64 0, .int .i64 0, .int .u32 0, .int .u32 0, .slice none 0 0] cs) : Pur Tryz.prog ⟨dst, .build 191 parts, T, p, e, g⟩ F n (.agg cs.toArray) :=
  p_build ty191 Tryz.underlying191 (by intro w; simp [ty120.sizeOf, ty189.sizeOf, ty3.sizeOf, ty76.sizeOf]) hps h
theorem bld199 {F : Env} {n : Nat} {dst : Option Tmp} {T : TypeId} {p : String} {e : Array Edge} {g : Option (Nat × Bool)} {parts : Array (Nat × Operand)} {ps : List (Nat × Value)} {cs : List Value} (hps : Parts F parts.toList ps) (h : Fil [(0, 1), (1, 1)] ps [.int .i64 0, .int .u32 0] cs) : Pur Tryz.prog ⟨dst, .build 199 parts, T, p, e, g⟩ F n (.agg cs.toArray) :=
  p_build ty199 Tryz.underlying199 (by intro w; simp [ty3.sizeOf, ty76.sizeOf]) hps h
theorem bld203 {F : Env} {n : Nat} {dst : Option Tmp} {T : TypeId} {p : String} {e : Array Edge} {g : Option (Nat × Bool)} {parts : Array (Nat × Operand)} {ps : List (Nat × Value)} {cs : List Value} (hps : Parts F parts.toList ps) (h : Fil [(0, 1), (1, 1), (2, 1), (3, 1)] ps [.int .i64 0, .int .i64 0, .int .i64 0, .int .u32 0] cs) : Pur Tryz.prog ⟨dst, .build 203 parts, T, p, e, g⟩ F n (.agg cs.toArray) :=
  p_build ty203 Tryz.underlying203 (by intro w; simp [ty3.sizeOf, ty76.sizeOf]) hps h
theorem bld206 {F : Env} {n : Nat} {dst : Option Tmp} {T : TypeId} {p : String} {e : Array Edge} {g : Option (Nat × Bool)} {parts : Array (Nat × Operand)} {ps : List (Nat × Value)} {cs : List Value} (hps : Parts F parts.toList ps) (h : Fil [(0, 1), (1, 1), (2, 1), (3, 5)] ps [.int .i64 0, .int .i64 0, .int .i64 0, .int .i64 0, .int .i64 0, .int .i64 0, .int .i64 0, .int .i64 0] cs) : Pur Tryz.prog ⟨dst, .build 206 parts, T, p, e, g⟩ F n (.agg cs.toArray) :=
  p_build ty206 Tryz.underlying206 (by intro w; simp [ty3.sizeOf, ty40.sizeOf]) hps h
theorem bld212 {F : Env} {n : Nat} {dst : Option Tmp} {T : TypeId} {p : String} {e : Array Edge} {g : Option (Nat × Bool)} {parts : Array (Nat × Operand)} {ps : List (Nat × Value)} {cs : List Value} (hps : Parts F parts.toList ps) (h : Fil [(0, 1), (1, 1), (2, 1), (3, 1), (4, 1), (5, 8), (13, 1)] ps [.int .i64 0, .pointer none, .pointer none, .pointer none, .pointer none, .int .i64 0, .int .i64 0, .int .i64 0, .int .i64 0, .int .i64 0, .int .i64 0, .int .i64 0, .int .i64 0, .int .i64 0] cs) : Pur Tryz.prog ⟨dst, .build 212 parts, T, p, e, g⟩ F n (.agg cs.toArray) :=
  p_build ty212 Tryz.underlying212 (by intro w; simp [ty206.sizeOf, ty207.sizeOf, ty208.sizeOf, ty209.sizeOf, ty210.sizeOf, ty3.sizeOf]) hps h
theorem bld214 {F : Env} {n : Nat} {dst : Option Tmp} {T : TypeId} {p : String} {e : Array Edge} {g : Option (Nat × Bool)} {parts : Array (Nat × Operand)} {ps : List (Nat × Value)} {cs : List Value} (hps : Parts F parts.toList ps) (h : Fil [(0, 1), (1, 1), (2, 1), (3, 1), (4, 1), (5, 1), (6, 1), (7, 1)] ps [.pointer none, .int .i64 0, .int .i64 0, .int .i64 0, .int .i64 0, .int .u32 0, .int .u32 0, .slice none 0 0] cs) : Pur Tryz.prog ⟨dst, .build 214 parts, T, p, e, g⟩ F n (.agg cs.toArray) :=
  p_build ty214 Tryz.underlying214 (by intro w; simp [ty189.sizeOf, ty3.sizeOf, ty76.sizeOf, ty93.sizeOf]) hps h
theorem bld218 {F : Env} {n : Nat} {dst : Option Tmp} {T : TypeId} {p : String} {e : Array Edge} {g : Option (Nat × Bool)} {parts : Array (Nat × Operand)} {ps : List (Nat × Value)} {cs : List Value} (hps : Parts F parts.toList ps) (h : Fil [(0, 2), (2, 1)] ps [.int .i64 0, .int .i64 0, .bool false] cs) : Pur Tryz.prog ⟨dst, .build 218 parts, T, p, e, g⟩ F n (.agg cs.toArray) :=
  p_build ty218 Tryz.underlying218 (by intro w; simp [ty216.sizeOf, ty4.sizeOf]) hps h
theorem bld223 {F : Env} {n : Nat} {dst : Option Tmp} {T : TypeId} {p : String} {e : Array Edge} {g : Option (Nat × Bool)} {parts : Array (Nat × Operand)} {ps : List (Nat × Value)} {cs : List Value} (hps : Parts F parts.toList ps) (h : Fil [(0, 1), (1, 1)] ps [.slice none 0 0, .slice none 0 0] cs) : Pur Tryz.prog ⟨dst, .build 223 parts, T, p, e, g⟩ F n (.agg cs.toArray) :=
  p_build ty223 Tryz.underlying223 (by intro w; simp [ty220.sizeOf, ty221.sizeOf]) hps h
theorem bld227 {F : Env} {n : Nat} {dst : Option Tmp} {T : TypeId} {p : String} {e : Array Edge} {g : Option (Nat × Bool)} {parts : Array (Nat × Operand)} {ps : List (Nat × Value)} {cs : List Value} (hps : Parts F parts.toList ps) (h : Fil [(0, 1), (1, 1)] ps [.int .u32 0, .slice none 0 0] cs) : Pur Tryz.prog ⟨dst, .build 227 parts, T, p, e, g⟩ F n (.agg cs.toArray) :=
  p_build ty227 Tryz.underlying227 (by intro w; simp [ty225.sizeOf, ty76.sizeOf]) hps h
theorem bld246 {F : Env} {n : Nat} {dst : Option Tmp} {T : TypeId} {p : String} {e : Array Edge} {g : Option (Nat × Bool)} {parts : Array (Nat × Operand)} {ps : List (Nat × Value)} {cs : List Value} (hps : Parts F parts.toList ps) (h : Fil [(0, 2), (2, 1)] ps [.int .i64 0, .int .i64 0, .bool false] cs) : Pur Tryz.prog ⟨dst, .build 246 parts, T, p, e, g⟩ F n (.agg cs.toArray) :=
  p_build ty246 Tryz.underlying246 (by intro w; simp [ty216.sizeOf, ty4.sizeOf]) hps h
theorem bld250 {F : Env} {n : Nat} {dst : Option Tmp} {T : TypeId} {p : String} {e : Array Edge} {g : Option (Nat × Bool)} {parts : Array (Nat × Operand)} {ps : List (Nat × Value)} {cs : List Value} (hps : Parts F parts.toList ps) (h : Fil [(0, 1)] ps [.slice none 0 0] cs) : Pur Tryz.prog ⟨dst, .build 250 parts, T, p, e, g⟩ F n (.agg cs.toArray) :=
  p_build ty250 Tryz.underlying250 (by intro w; simp [ty248.sizeOf]) hps h
theorem bld265 {F : Env} {n : Nat} {dst : Option Tmp} {T : TypeId} {p : String} {e : Array Edge} {g : Option (Nat × Bool)} {parts : Array (Nat × Operand)} {ps : List (Nat × Value)} {cs : List Value} (hps : Parts F parts.toList ps) (h : Fil [(0, 1)] ps [.slice none 0 0] cs) : Pur Tryz.prog ⟨dst, .build 265 parts, T, p, e, g⟩ F n (.agg cs.toArray) :=
  p_build ty265 Tryz.underlying265 (by intro w; simp [ty248.sizeOf]) hps h
theorem bld271 {F : Env} {n : Nat} {dst : Option Tmp} {T : TypeId} {p : String} {e : Array Edge} {g : Option (Nat × Bool)} {parts : Array (Nat × Operand)} {ps : List (Nat × Value)} {cs : List Value} (hps : Parts F parts.toList ps) (h : Fil [(0, 2), (2, 2), (4, 5)] ps [.int .i64 0, .int .i64 0, .int .i64 0, .int .i64 0, .int .i64 0, .int .i64 0, .int .i64 0, .int .i64 0, .int .i64 0] cs) : Pur Tryz.prog ⟨dst, .build 271 parts, T, p, e, g⟩ F n (.agg cs.toArray) :=
  p_build ty271 Tryz.underlying271 (by intro w; simp [ty40.sizeOf, ty44.sizeOf]) hps h
theorem bld275 {F : Env} {n : Nat} {dst : Option Tmp} {T : TypeId} {p : String} {e : Array Edge} {g : Option (Nat × Bool)} {parts : Array (Nat × Operand)} {ps : List (Nat × Value)} {cs : List Value} (hps : Parts F parts.toList ps) (h : Fil [(0, 2), (2, 2)] ps [.int .i64 0, .int .i64 0, .int .i64 0, .int .i64 0] cs) : Pur Tryz.prog ⟨dst, .build 275 parts, T, p, e, g⟩ F n (.agg cs.toArray) :=
  p_build ty275 Tryz.underlying275 (by intro w; simp [ty57.sizeOf, ty63.sizeOf]) hps h
theorem bld277 {F : Env} {n : Nat} {dst : Option Tmp} {T : TypeId} {p : String} {e : Array Edge} {g : Option (Nat × Bool)} {parts : Array (Nat × Operand)} {ps : List (Nat × Value)} {cs : List Value} (hps : Parts F parts.toList ps) (h : Fil [(0, 1), (1, 1)] ps [.int .i64 0, .int .i64 0] cs) : Pur Tryz.prog ⟨dst, .build 277 parts, T, p, e, g⟩ F n (.agg cs.toArray) :=
  p_build ty277 Tryz.underlying277 (by intro w; simp [ty3.sizeOf]) hps h
theorem shp25 : Tryz.prog.stoodInHeld 25 = false := by kernel_rfl
theorem flds25 : Tryz.prog.underlying 25 = some (.struct (Tryz.prog.fieldsOf 25)) := by kernel_rfl
theorem eqin25 (a0 b0 : Int) (a1 b1 : Int) (a2 b2 : Int) (a3 b3 : Int) (a4 b4 : Bool) (D : Nat) (w : World) : (Op.equalIn (D + 2) 25 (.agg #[.int .i64 a0, .int .i64 a1, .int .i64 a2, .int .i64 a3, .bool a4]) (.agg #[.int .i64 b0, .int .i64 b1, .int .i64 b2, .int .i64 b3, .bool b4])).run Tryz.prog w = .ok (decide (a0 = b0 ∧ a1 = b1 ∧ a2 = b2 ∧ a3 = b3 ∧ a4 = b4)) w := by
  have h0 := run_equalIn_int (P := Tryz.prog) w (D + 0) 3 .i64 .i64 a0 b0 Tryz.underlying3
  have h1 := run_equalIn_int (P := Tryz.prog) w (D + 0) 3 .i64 .i64 a1 b1 Tryz.underlying3
  have h2 := run_equalIn_int (P := Tryz.prog) w (D + 0) 3 .i64 .i64 a2 b2 Tryz.underlying3
  have h3 := run_equalIn_int (P := Tryz.prog) w (D + 0) 3 .i64 .i64 a3 b3 Tryz.underlying3
  have h4 := run_equalIn_bool' (P := Tryz.prog) w (D + 0) 4 a4 b4 Tryz.underlying4
  simp only [Nat.add_zero] at h0 h1 h2 h3 h4
  rw [run_equalIn_struct w (D + 1) 25 _ _ flds25 shp25]
  simp only [Program.fieldsOf, Tryz.underlying25]
  simp [Op.eqFields, part, ty3.isAgg, ty3.sizeOf, ty4.isAgg, ty4.sizeOf, h0, h1, h2, h3, h4]
  (repeat' split) <;> simp_all
theorem eg25 (op : BinOp) (x y : Operand) (xs ys : Array Value) (w : World) : (eqGuard op 25 x y (.agg xs) (.agg ys)).run Tryz.prog w = .ok () w := run_eqGuard_agg w op 25 x y xs ys (by kernel_rfl)
theorem eqv25 (a0 b0 : Int) (a1 b1 : Int) (a2 b2 : Int) (a3 b3 : Int) (a4 b4 : Bool) (w : World) : (binOp .eql 25 (.agg #[.int .i64 a0, .int .i64 a1, .int .i64 a2, .int .i64 a3, .bool a4]) (.agg #[.int .i64 b0, .int .i64 b1, .int .i64 b2, .int .i64 b3, .bool b4])).run Tryz.prog w = .ok (.bool (decide (a0 = b0 ∧ a1 = b1 ∧ a2 = b2 ∧ a3 = b3 ∧ a4 = b4))) w := by
  have h := eqin25 a0 b0 a1 b1 a2 b2 a3 b3 a4 b4 9998 w
  rw [(by decide : 9998 + 2 = 10000)] at h
  rw [run_eql_struct w 25, h]; rfl
theorem nev25 (a0 b0 : Int) (a1 b1 : Int) (a2 b2 : Int) (a3 b3 : Int) (a4 b4 : Bool) (w : World) : (binOp .neq 25 (.agg #[.int .i64 a0, .int .i64 a1, .int .i64 a2, .int .i64 a3, .bool a4]) (.agg #[.int .i64 b0, .int .i64 b1, .int .i64 b2, .int .i64 b3, .bool b4])).run Tryz.prog w = .ok (.bool (!decide (a0 = b0 ∧ a1 = b1 ∧ a2 = b2 ∧ a3 = b3 ∧ a4 = b4))) w := by
  have h := eqin25 a0 b0 a1 b1 a2 b2 a3 b3 a4 b4 9998 w
  rw [(by decide : 9998 + 2 = 10000)] at h
  rw [run_neq_struct w 25, h]; rfl
theorem shp40 : Tryz.prog.stoodInHeld 40 = false := by kernel_rfl
theorem flds40 : Tryz.prog.underlying 40 = some (.struct (Tryz.prog.fieldsOf 40)) := by kernel_rfl
theorem eqin40 (a0 b0 : Int) (a1 b1 : Int) (a2 b2 : Int) (a3 b3 : Int) (a4 b4 : Int) (D : Nat) (w : World) : (Op.equalIn (D + 2) 40 (.agg #[.int .i64 a0, .int .i64 a1, .int .i64 a2, .int .i64 a3, .int .i64 a4]) (.agg #[.int .i64 b0, .int .i64 b1, .int .i64 b2, .int .i64 b3, .int .i64 b4])).run Tryz.prog w = .ok (decide (a0 = b0 ∧ a1 = b1 ∧ a2 = b2 ∧ a3 = b3 ∧ a4 = b4)) w := by
  have h0 := run_equalIn_int (P := Tryz.prog) w (D + 0) 3 .i64 .i64 a0 b0 Tryz.underlying3
  have h1 := run_equalIn_int (P := Tryz.prog) w (D + 0) 3 .i64 .i64 a1 b1 Tryz.underlying3
  have h2 := run_equalIn_int (P := Tryz.prog) w (D + 0) 3 .i64 .i64 a2 b2 Tryz.underlying3
  have h3 := run_equalIn_int (P := Tryz.prog) w (D + 0) 3 .i64 .i64 a3 b3 Tryz.underlying3
  have h4 := run_equalIn_int (P := Tryz.prog) w (D + 0) 3 .i64 .i64 a4 b4 Tryz.underlying3
  simp only [Nat.add_zero] at h0 h1 h2 h3 h4
  rw [run_equalIn_struct w (D + 1) 40 _ _ flds40 shp40]
  simp only [Program.fieldsOf, Tryz.underlying40]
  simp [Op.eqFields, part, ty3.isAgg, ty3.sizeOf, h0, h1, h2, h3, h4]
  (repeat' split) <;> simp_all
theorem eg40 (op : BinOp) (x y : Operand) (xs ys : Array Value) (w : World) : (eqGuard op 40 x y (.agg xs) (.agg ys)).run Tryz.prog w = .ok () w := run_eqGuard_agg w op 40 x y xs ys (by kernel_rfl)
theorem eqv40 (a0 b0 : Int) (a1 b1 : Int) (a2 b2 : Int) (a3 b3 : Int) (a4 b4 : Int) (w : World) : (binOp .eql 40 (.agg #[.int .i64 a0, .int .i64 a1, .int .i64 a2, .int .i64 a3, .int .i64 a4]) (.agg #[.int .i64 b0, .int .i64 b1, .int .i64 b2, .int .i64 b3, .int .i64 b4])).run Tryz.prog w = .ok (.bool (decide (a0 = b0 ∧ a1 = b1 ∧ a2 = b2 ∧ a3 = b3 ∧ a4 = b4))) w := by
  have h := eqin40 a0 b0 a1 b1 a2 b2 a3 b3 a4 b4 9998 w
  rw [(by decide : 9998 + 2 = 10000)] at h
  rw [run_eql_struct w 40, h]; rfl
theorem nev40 (a0 b0 : Int) (a1 b1 : Int) (a2 b2 : Int) (a3 b3 : Int) (a4 b4 : Int) (w : World) : (binOp .neq 40 (.agg #[.int .i64 a0, .int .i64 a1, .int .i64 a2, .int .i64 a3, .int .i64 a4]) (.agg #[.int .i64 b0, .int .i64 b1, .int .i64 b2, .int .i64 b3, .int .i64 b4])).run Tryz.prog w = .ok (.bool (!decide (a0 = b0 ∧ a1 = b1 ∧ a2 = b2 ∧ a3 = b3 ∧ a4 = b4))) w := by
  have h := eqin40 a0 b0 a1 b1 a2 b2 a3 b3 a4 b4 9998 w
  rw [(by decide : 9998 + 2 = 10000)] at h
  rw [run_neq_struct w 40, h]; rfl
theorem shp44 : Tryz.prog.stoodInHeld 44 = false := by kernel_rfl
theorem flds44 : Tryz.prog.underlying 44 = some (.struct (Tryz.prog.fieldsOf 44)) := by kernel_rfl
theorem eqin44 (a0 b0 : Int) (a1 b1 : Int) (D : Nat) (w : World) : (Op.equalIn (D + 2) 44 (.agg #[.int .i64 a0, .int .i64 a1]) (.agg #[.int .i64 b0, .int .i64 b1])).run Tryz.prog w = .ok (decide (a0 = b0 ∧ a1 = b1)) w := by
  have h0 := run_equalIn_int (P := Tryz.prog) w (D + 0) 3 .i64 .i64 a0 b0 Tryz.underlying3
  have h1 := run_equalIn_int (P := Tryz.prog) w (D + 0) 3 .i64 .i64 a1 b1 Tryz.underlying3
  simp only [Nat.add_zero] at h0 h1
  rw [run_equalIn_struct w (D + 1) 44 _ _ flds44 shp44]
  simp only [Program.fieldsOf, Tryz.underlying44]
  simp [Op.eqFields, part, ty3.isAgg, ty3.sizeOf, h0, h1]
  (repeat' split) <;> simp_all
theorem eg44 (op : BinOp) (x y : Operand) (xs ys : Array Value) (w : World) : (eqGuard op 44 x y (.agg xs) (.agg ys)).run Tryz.prog w = .ok () w := run_eqGuard_agg w op 44 x y xs ys (by kernel_rfl)
theorem eqv44 (a0 b0 : Int) (a1 b1 : Int) (w : World) : (binOp .eql 44 (.agg #[.int .i64 a0, .int .i64 a1]) (.agg #[.int .i64 b0, .int .i64 b1])).run Tryz.prog w = .ok (.bool (decide (a0 = b0 ∧ a1 = b1))) w := by
  have h := eqin44 a0 b0 a1 b1 9998 w
  rw [(by decide : 9998 + 2 = 10000)] at h
  rw [run_eql_struct w 44, h]; rfl
theorem nev44 (a0 b0 : Int) (a1 b1 : Int) (w : World) : (binOp .neq 44 (.agg #[.int .i64 a0, .int .i64 a1]) (.agg #[.int .i64 b0, .int .i64 b1])).run Tryz.prog w = .ok (.bool (!decide (a0 = b0 ∧ a1 = b1))) w := by
  have h := eqin44 a0 b0 a1 b1 9998 w
  rw [(by decide : 9998 + 2 = 10000)] at h
  rw [run_neq_struct w 44, h]; rfl
theorem shp57 : Tryz.prog.stoodInHeld 57 = false := by kernel_rfl
theorem flds57 : Tryz.prog.underlying 57 = some (.struct (Tryz.prog.fieldsOf 57)) := by kernel_rfl
theorem eqin57 (a0 b0 : Int) (a1 b1 : Int) (D : Nat) (w : World) : (Op.equalIn (D + 2) 57 (.agg #[.int .i64 a0, .int .i64 a1]) (.agg #[.int .i64 b0, .int .i64 b1])).run Tryz.prog w = .ok (decide (a0 = b0 ∧ a1 = b1)) w := by
  have h0 := run_equalIn_int (P := Tryz.prog) w (D + 0) 3 .i64 .i64 a0 b0 Tryz.underlying3
  have h1 := run_equalIn_int (P := Tryz.prog) w (D + 0) 3 .i64 .i64 a1 b1 Tryz.underlying3
  simp only [Nat.add_zero] at h0 h1
  rw [run_equalIn_struct w (D + 1) 57 _ _ flds57 shp57]
  simp only [Program.fieldsOf, Tryz.underlying57]
  simp [Op.eqFields, part, ty3.isAgg, ty3.sizeOf, h0, h1]
  (repeat' split) <;> simp_all
theorem eg57 (op : BinOp) (x y : Operand) (xs ys : Array Value) (w : World) : (eqGuard op 57 x y (.agg xs) (.agg ys)).run Tryz.prog w = .ok () w := run_eqGuard_agg w op 57 x y xs ys (by kernel_rfl)
theorem eqv57 (a0 b0 : Int) (a1 b1 : Int) (w : World) : (binOp .eql 57 (.agg #[.int .i64 a0, .int .i64 a1]) (.agg #[.int .i64 b0, .int .i64 b1])).run Tryz.prog w = .ok (.bool (decide (a0 = b0 ∧ a1 = b1))) w := by
  have h := eqin57 a0 b0 a1 b1 9998 w
  rw [(by decide : 9998 + 2 = 10000)] at h
  rw [run_eql_struct w 57, h]; rfl
theorem nev57 (a0 b0 : Int) (a1 b1 : Int) (w : World) : (binOp .neq 57 (.agg #[.int .i64 a0, .int .i64 a1]) (.agg #[.int .i64 b0, .int .i64 b1])).run Tryz.prog w = .ok (.bool (!decide (a0 = b0 ∧ a1 = b1))) w := by
  have h := eqin57 a0 b0 a1 b1 9998 w
  rw [(by decide : 9998 + 2 = 10000)] at h
  rw [run_neq_struct w 57, h]; rfl
theorem shp63 : Tryz.prog.stoodInHeld 63 = false := by kernel_rfl
theorem flds63 : Tryz.prog.underlying 63 = some (.struct (Tryz.prog.fieldsOf 63)) := by kernel_rfl
theorem eqin63 (a0 b0 : Int) (a1 b1 : Int) (D : Nat) (w : World) : (Op.equalIn (D + 2) 63 (.agg #[.int .i64 a0, .int .i64 a1]) (.agg #[.int .i64 b0, .int .i64 b1])).run Tryz.prog w = .ok (decide (a0 = b0 ∧ a1 = b1)) w := by
  have h0 := run_equalIn_int (P := Tryz.prog) w (D + 0) 3 .i64 .i64 a0 b0 Tryz.underlying3
  have h1 := run_equalIn_int (P := Tryz.prog) w (D + 0) 3 .i64 .i64 a1 b1 Tryz.underlying3
  simp only [Nat.add_zero] at h0 h1
  rw [run_equalIn_struct w (D + 1) 63 _ _ flds63 shp63]
  simp only [Program.fieldsOf, Tryz.underlying63]
  simp [Op.eqFields, part, ty3.isAgg, ty3.sizeOf, h0, h1]
  (repeat' split) <;> simp_all
theorem eg63 (op : BinOp) (x y : Operand) (xs ys : Array Value) (w : World) : (eqGuard op 63 x y (.agg xs) (.agg ys)).run Tryz.prog w = .ok () w := run_eqGuard_agg w op 63 x y xs ys (by kernel_rfl)
theorem eqv63 (a0 b0 : Int) (a1 b1 : Int) (w : World) : (binOp .eql 63 (.agg #[.int .i64 a0, .int .i64 a1]) (.agg #[.int .i64 b0, .int .i64 b1])).run Tryz.prog w = .ok (.bool (decide (a0 = b0 ∧ a1 = b1))) w := by
  have h := eqin63 a0 b0 a1 b1 9998 w
  rw [(by decide : 9998 + 2 = 10000)] at h
  rw [run_eql_struct w 63, h]; rfl
theorem nev63 (a0 b0 : Int) (a1 b1 : Int) (w : World) : (binOp .neq 63 (.agg #[.int .i64 a0, .int .i64 a1]) (.agg #[.int .i64 b0, .int .i64 b1])).run Tryz.prog w = .ok (.bool (!decide (a0 = b0 ∧ a1 = b1))) w := by
  have h := eqin63 a0 b0 a1 b1 9998 w
  rw [(by decide : 9998 + 2 = 10000)] at h
  rw [run_neq_struct w 63, h]; rfl
theorem shp216 : Tryz.prog.stoodInHeld 216 = false := by kernel_rfl
theorem flds216 : Tryz.prog.underlying 216 = some (.struct (Tryz.prog.fieldsOf 216)) := by kernel_rfl
theorem eqin216 (a0 b0 : Int) (a1 b1 : Int) (D : Nat) (w : World) : (Op.equalIn (D + 2) 216 (.agg #[.int .i64 a0, .int .i64 a1]) (.agg #[.int .i64 b0, .int .i64 b1])).run Tryz.prog w = .ok (decide (a0 = b0 ∧ a1 = b1)) w := by
  have h0 := run_equalIn_int (P := Tryz.prog) w (D + 0) 3 .i64 .i64 a0 b0 Tryz.underlying3
  have h1 := run_equalIn_int (P := Tryz.prog) w (D + 0) 3 .i64 .i64 a1 b1 Tryz.underlying3
  simp only [Nat.add_zero] at h0 h1
  rw [run_equalIn_struct w (D + 1) 216 _ _ flds216 shp216]
  simp only [Program.fieldsOf, Tryz.underlying216]
  simp [Op.eqFields, part, ty3.isAgg, ty3.sizeOf, h0, h1]
  (repeat' split) <;> simp_all
theorem eg216 (op : BinOp) (x y : Operand) (xs ys : Array Value) (w : World) : (eqGuard op 216 x y (.agg xs) (.agg ys)).run Tryz.prog w = .ok () w := run_eqGuard_agg w op 216 x y xs ys (by kernel_rfl)
theorem eqv216 (a0 b0 : Int) (a1 b1 : Int) (w : World) : (binOp .eql 216 (.agg #[.int .i64 a0, .int .i64 a1]) (.agg #[.int .i64 b0, .int .i64 b1])).run Tryz.prog w = .ok (.bool (decide (a0 = b0 ∧ a1 = b1))) w := by
  have h := eqin216 a0 b0 a1 b1 9998 w
  rw [(by decide : 9998 + 2 = 10000)] at h
  rw [run_eql_struct w 216, h]; rfl
theorem nev216 (a0 b0 : Int) (a1 b1 : Int) (w : World) : (binOp .neq 216 (.agg #[.int .i64 a0, .int .i64 a1]) (.agg #[.int .i64 b0, .int .i64 b1])).run Tryz.prog w = .ok (.bool (!decide (a0 = b0 ∧ a1 = b1))) w := by
  have h := eqin216 a0 b0 a1 b1 9998 w
  rw [(by decide : 9998 + 2 = 10000)] at h
  rw [run_neq_struct w 216, h]; rfl
theorem zv_of {P : Program} {t : TypeId} {z : Value} (h : (P.info? t).bind (·.zero) = some z) : (P.info? t).bind (·.zero) = some z := h
theorem zv3 : (Tryz.prog.info? 3).bind (·.zero) = some (.int .i64 0) := by kernel_rfl
theorem zv4 : (Tryz.prog.info? 4).bind (·.zero) = some (.bool false) := by kernel_rfl
theorem zv47 : (Tryz.prog.info? 47).bind (·.zero) = some (.agg #[.int .i64 0, .int .i64 0, .int .i64 0, .int .i64 0, .int .i64 0, .int .i64 0, .int .i64 0, .int .i64 0]) := by kernel_rfl
theorem zv52 : (Tryz.prog.info? 52).bind (·.zero) = some (.pointer none) := by kernel_rfl
theorem zv57 : (Tryz.prog.info? 57).bind (·.zero) = some (.agg #[.int .i64 0, .int .i64 0]) := by kernel_rfl
theorem zv74 : (Tryz.prog.info? 74).bind (·.zero) = some (.pointer none) := by kernel_rfl
theorem zv79 : (Tryz.prog.info? 79).bind (·.zero) = some (.pointer none) := by kernel_rfl
theorem zv81 : (Tryz.prog.info? 81).bind (·.zero) = some (.pointer none) := by kernel_rfl
theorem zv179 : (Tryz.prog.info? 179).bind (·.zero) = some (.agg #[.int .i64 0, .int .i64 0, .int .i64 0, .int .i64 0, .int .i64 0, .int .i64 0, .int .i64 0]) := by kernel_rfl
theorem zv199 : (Tryz.prog.info? 199).bind (·.zero) = some (.agg #[.int .i64 0, .int .u32 0]) := by kernel_rfl
theorem zv359 : (Tryz.prog.info? 359).bind (·.zero) = some (.agg #[.int .i64 0, .int .i64 0, .int .i64 0, .int .i64 0, .int .u32 0, .int .u32 0, .int .u32 0, .int .u32 0, .int .u32 0, .int .u32 0, .int .i64 0, .bool false, .bool false]) := by kernel_rfl
theorem ky3 : Ky Tryz.prog 3 (fun a : Int => Value.int .i64 a) := ky_int Tryz.underlying3
theorem ky44 : Ky Tryz.prog 44 (fun a : Int × Int => Value.agg #[.int .i64 a.1, .int .i64 a.2]) := by
  refine ky_struct Tryz.underlying44 (fun a => ?_) (fun a em w => ?_) (fun a b w => ?_)
  · have : ∀ n, Instr.sameBits (n + 2) (.agg #[.int .i64 a.1, .int .i64 a.2]) (.agg #[.int .i64 a.1, .int .i64 a.2]) = true := fun n => by simp [Instr.sameBits]
    have h := this 9998
    rw [(by decide : 9998 + 2 = 10000)] at h
    exact h
  · have : ∀ n, (Instr.checkKey em (n + 2) 44 (.agg #[.int .i64 a.1, .int .i64 a.2])).run Tryz.prog w = .ok () w := fun n => by
      simp [Instr.checkKey, run_underlying Tryz.underlying44, part, run_underlying Tryz.underlying3, ty3.isAgg]
    have h := this 9998
    rw [(by decide : 9998 + 2 = 10000)] at h
    exact h
  · have h := eqin44 a.1 b.1 a.2 b.2 9998 w
    rw [(by decide : 9998 + 2 = 10000)] at h
    have e : decide (a.1 = b.1 ∧ a.2 = b.2) = decide (a = b) := by rw [decide_eq_decide]; exact Prod.ext_iff.symm
    rw [e] at h
    exact h
theorem ky63 : Ky Tryz.prog 63 (fun a : Int × Int => Value.agg #[.int .i64 a.1, .int .i64 a.2]) := by
  refine ky_struct Tryz.underlying63 (fun a => ?_) (fun a em w => ?_) (fun a b w => ?_)
  · have : ∀ n, Instr.sameBits (n + 2) (.agg #[.int .i64 a.1, .int .i64 a.2]) (.agg #[.int .i64 a.1, .int .i64 a.2]) = true := fun n => by simp [Instr.sameBits]
    have h := this 9998
    rw [(by decide : 9998 + 2 = 10000)] at h
    exact h
  · have : ∀ n, (Instr.checkKey em (n + 2) 63 (.agg #[.int .i64 a.1, .int .i64 a.2])).run Tryz.prog w = .ok () w := fun n => by
      simp [Instr.checkKey, run_underlying Tryz.underlying63, part, run_underlying Tryz.underlying3, ty3.isAgg]
    have h := this 9998
    rw [(by decide : 9998 + 2 = 10000)] at h
    exact h
  · have h := eqin63 a.1 b.1 a.2 b.2 9998 w
    rw [(by decide : 9998 + 2 = 10000)] at h
    have e : decide (a.1 = b.1 ∧ a.2 = b.2) = decide (a = b) := by rw [decide_eq_decide]; exact Prod.ext_iff.symm
    rw [e] at h
    exact h
theorem ky216 : Ky Tryz.prog 216 (fun a : Int × Int => Value.agg #[.int .i64 a.1, .int .i64 a.2]) := by
  refine ky_struct Tryz.underlying216 (fun a => ?_) (fun a em w => ?_) (fun a b w => ?_)
  · have : ∀ n, Instr.sameBits (n + 2) (.agg #[.int .i64 a.1, .int .i64 a.2]) (.agg #[.int .i64 a.1, .int .i64 a.2]) = true := fun n => by simp [Instr.sameBits]
    have h := this 9998
    rw [(by decide : 9998 + 2 = 10000)] at h
    exact h
  · have : ∀ n, (Instr.checkKey em (n + 2) 216 (.agg #[.int .i64 a.1, .int .i64 a.2])).run Tryz.prog w = .ok () w := fun n => by
      simp [Instr.checkKey, run_underlying Tryz.underlying216, part, run_underlying Tryz.underlying3, ty3.isAgg]
    have h := this 9998
    rw [(by decide : 9998 + 2 = 10000)] at h
    exact h
  · have h := eqin216 a.1 b.1 a.2 b.2 9998 w
    rw [(by decide : 9998 + 2 = 10000)] at h
    have e : decide (a.1 = b.1 ∧ a.2 = b.2) = decide (a = b) := by rw [decide_eq_decide]; exact Prod.ext_iff.symm
    rw [e] at h
    exact h
theorem shp347 : Tryz.prog.stoodInHeld 347 = false := by kernel_rfl
theorem flds347 : Tryz.prog.underlying 347 = some (.struct (Tryz.prog.fieldsOf 347)) := by kernel_rfl
theorem eqin347 (a0 b0 : Int) (a1 b1 : Int) (D : Nat) (w : World) : (Op.equalIn (D + 2) 347 (.agg #[.int .i64 a0, .int .i64 a1]) (.agg #[.int .i64 b0, .int .i64 b1])).run Tryz.prog w = .ok (decide (a0 = b0 ∧ a1 = b1)) w := by
  have h0 := run_equalIn_int (P := Tryz.prog) w (D + 0) 3 .i64 .i64 a0 b0 Tryz.underlying3
  have h1 := run_equalIn_int (P := Tryz.prog) w (D + 0) 3 .i64 .i64 a1 b1 Tryz.underlying3
  simp only [Nat.add_zero] at h0 h1
  rw [run_equalIn_struct w (D + 1) 347 _ _ flds347 shp347]
  simp only [Program.fieldsOf, Tryz.underlying347]
  simp [Op.eqFields, part, ty3.isAgg, ty3.sizeOf, h0, h1]
  (repeat' split) <;> simp_all
theorem ky347 : Ky Tryz.prog 347 (fun a : Int × Int => Value.agg #[.int .i64 a.1, .int .i64 a.2]) := by
  refine ky_struct Tryz.underlying347 (fun a => ?_) (fun a em w => ?_) (fun a b w => ?_)
  · have : ∀ n, Instr.sameBits (n + 2) (.agg #[.int .i64 a.1, .int .i64 a.2]) (.agg #[.int .i64 a.1, .int .i64 a.2]) = true := fun n => by simp [Instr.sameBits]
    have h := this 9998
    rw [(by decide : 9998 + 2 = 10000)] at h
    exact h
  · have : ∀ n, (Instr.checkKey em (n + 2) 347 (.agg #[.int .i64 a.1, .int .i64 a.2])).run Tryz.prog w = .ok () w := fun n => by
      simp [Instr.checkKey, run_underlying Tryz.underlying347, part, run_underlying Tryz.underlying3, ty3.isAgg]
    have h := this 9998
    rw [(by decide : 9998 + 2 = 10000)] at h
    exact h
  · have h := eqin347 a.1 b.1 a.2 b.2 9998 w
    rw [(by decide : 9998 + 2 = 10000)] at h
    have e : decide (a.1 = b.1 ∧ a.2 = b.2) = decide (a = b) := by rw [decide_eq_decide]; exact Prod.ext_iff.symm
    rw [e] at h
    exact h
theorem nm3 : (Tryz.f3.name == "runtime.NumGoroutine") = false := by kernel_rfl
theorem bd3 : Tryz.f3.body.isNone = false := by kernel_rfl
theorem nm4 : (Tryz.f4.name == "runtime.NumGoroutine") = false := by kernel_rfl
theorem bd4 : Tryz.f4.body.isNone = false := by kernel_rfl
theorem nm5 : (Tryz.f5.name == "runtime.NumGoroutine") = false := by kernel_rfl
theorem bd5 : Tryz.f5.body.isNone = false := by kernel_rfl
theorem nm6 : (Tryz.f6.name == "runtime.NumGoroutine") = false := by kernel_rfl
theorem bd6 : Tryz.f6.body.isNone = false := by kernel_rfl
theorem nm7 : (Tryz.f7.name == "runtime.NumGoroutine") = false := by kernel_rfl
theorem bd7 : Tryz.f7.body.isNone = false := by kernel_rfl
theorem nm8 : (Tryz.f8.name == "runtime.NumGoroutine") = false := by kernel_rfl
theorem bd8 : Tryz.f8.body.isNone = false := by kernel_rfl
theorem nm9 : (Tryz.f9.name == "runtime.NumGoroutine") = false := by kernel_rfl
theorem bd9 : Tryz.f9.body.isNone = false := by kernel_rfl
theorem nm10 : (Tryz.f10.name == "runtime.NumGoroutine") = false := by kernel_rfl
theorem bd10 : Tryz.f10.body.isNone = false := by kernel_rfl
theorem nm11 : (Tryz.f11.name == "runtime.NumGoroutine") = false := by kernel_rfl
theorem bd11 : Tryz.f11.body.isNone = false := by kernel_rfl
theorem nm12 : (Tryz.f12.name == "runtime.NumGoroutine") = false := by kernel_rfl
theorem bd12 : Tryz.f12.body.isNone = false := by kernel_rfl
theorem nm13 : (Tryz.f13.name == "runtime.NumGoroutine") = false := by kernel_rfl
theorem bd13 : Tryz.f13.body.isNone = false := by kernel_rfl
theorem nm14 : (Tryz.f14.name == "runtime.NumGoroutine") = false := by kernel_rfl
theorem bd14 : Tryz.f14.body.isNone = false := by kernel_rfl
theorem nm15 : (Tryz.f15.name == "runtime.NumGoroutine") = false := by kernel_rfl
theorem bd15 : Tryz.f15.body.isNone = false := by kernel_rfl
theorem nm16 : (Tryz.f16.name == "runtime.NumGoroutine") = false := by kernel_rfl
theorem bd16 : Tryz.f16.body.isNone = false := by kernel_rfl
theorem nm17 : (Tryz.f17.name == "runtime.NumGoroutine") = false := by kernel_rfl
theorem bd17 : Tryz.f17.body.isNone = false := by kernel_rfl
theorem nm18 : (Tryz.f18.name == "runtime.NumGoroutine") = false := by kernel_rfl
theorem bd18 : Tryz.f18.body.isNone = false := by kernel_rfl
theorem nm19 : (Tryz.f19.name == "runtime.NumGoroutine") = false := by kernel_rfl
theorem bd19 : Tryz.f19.body.isNone = false := by kernel_rfl
theorem nm20 : (Tryz.f20.name == "runtime.NumGoroutine") = false := by kernel_rfl
theorem bd20 : Tryz.f20.body.isNone = false := by kernel_rfl
theorem nm21 : (Tryz.f21.name == "runtime.NumGoroutine") = false := by kernel_rfl
theorem bd21 : Tryz.f21.body.isNone = false := by kernel_rfl
theorem nm22 : (Tryz.f22.name == "runtime.NumGoroutine") = false := by kernel_rfl
theorem bd22 : Tryz.f22.body.isNone = false := by kernel_rfl
theorem nm23 : (Tryz.f23.name == "runtime.NumGoroutine") = false := by kernel_rfl
theorem bd23 : Tryz.f23.body.isNone = false := by kernel_rfl
theorem nm24 : (Tryz.f24.name == "runtime.NumGoroutine") = false := by kernel_rfl
theorem bd24 : Tryz.f24.body.isNone = false := by kernel_rfl
theorem nm25 : (Tryz.f25.name == "runtime.NumGoroutine") = false := by kernel_rfl
theorem bd25 : Tryz.f25.body.isNone = false := by kernel_rfl
theorem nm26 : (Tryz.f26.name == "runtime.NumGoroutine") = false := by kernel_rfl
theorem bd26 : Tryz.f26.body.isNone = false := by kernel_rfl
theorem nm27 : (Tryz.f27.name == "runtime.NumGoroutine") = false := by kernel_rfl
theorem bd27 : Tryz.f27.body.isNone = false := by kernel_rfl
theorem nm28 : (Tryz.f28.name == "runtime.NumGoroutine") = false := by kernel_rfl
theorem bd28 : Tryz.f28.body.isNone = false := by kernel_rfl
theorem nm29 : (Tryz.f29.name == "runtime.NumGoroutine") = false := by kernel_rfl
theorem bd29 : Tryz.f29.body.isNone = false := by kernel_rfl
theorem nm30 : (Tryz.f30.name == "runtime.NumGoroutine") = false := by kernel_rfl
theorem bd30 : Tryz.f30.body.isNone = false := by kernel_rfl
theorem nm31 : (Tryz.f31.name == "runtime.NumGoroutine") = false := by kernel_rfl
theorem bd31 : Tryz.f31.body.isNone = false := by kernel_rfl
theorem nm32 : (Tryz.f32.name == "runtime.NumGoroutine") = false := by kernel_rfl
theorem bd32 : Tryz.f32.body.isNone = false := by kernel_rfl
theorem nm33 : (Tryz.f33.name == "runtime.NumGoroutine") = false := by kernel_rfl
theorem bd33 : Tryz.f33.body.isNone = false := by kernel_rfl
theorem nm34 : (Tryz.f34.name == "runtime.NumGoroutine") = false := by kernel_rfl
theorem bd34 : Tryz.f34.body.isNone = false := by kernel_rfl
theorem nm35 : (Tryz.f35.name == "runtime.NumGoroutine") = false := by kernel_rfl
theorem bd35 : Tryz.f35.body.isNone = false := by kernel_rfl
theorem nm36 : (Tryz.f36.name == "runtime.NumGoroutine") = false := by kernel_rfl
theorem bd36 : Tryz.f36.body.isNone = false := by kernel_rfl
theorem nm37 : (Tryz.f37.name == "runtime.NumGoroutine") = false := by kernel_rfl
theorem bd37 : Tryz.f37.body.isNone = false := by kernel_rfl
theorem nm38 : (Tryz.f38.name == "runtime.NumGoroutine") = false := by kernel_rfl
theorem bd38 : Tryz.f38.body.isNone = false := by kernel_rfl
theorem nm39 : (Tryz.f39.name == "runtime.NumGoroutine") = false := by kernel_rfl
theorem bd39 : Tryz.f39.body.isNone = false := by kernel_rfl
theorem nm40 : (Tryz.f40.name == "runtime.NumGoroutine") = false := by kernel_rfl
theorem bd40 : Tryz.f40.body.isNone = false := by kernel_rfl
theorem nm41 : (Tryz.f41.name == "runtime.NumGoroutine") = false := by kernel_rfl
theorem bd41 : Tryz.f41.body.isNone = false := by kernel_rfl
theorem nm42 : (Tryz.f42.name == "runtime.NumGoroutine") = false := by kernel_rfl
theorem bd42 : Tryz.f42.body.isNone = false := by kernel_rfl
theorem nm43 : (Tryz.f43.name == "runtime.NumGoroutine") = false := by kernel_rfl
theorem bd43 : Tryz.f43.body.isNone = false := by kernel_rfl
theorem nm44 : (Tryz.f44.name == "runtime.NumGoroutine") = false := by kernel_rfl
theorem bd44 : Tryz.f44.body.isNone = false := by kernel_rfl
theorem nm45 : (Tryz.f45.name == "runtime.NumGoroutine") = false := by kernel_rfl
theorem bd45 : Tryz.f45.body.isNone = false := by kernel_rfl
theorem nm46 : (Tryz.f46.name == "runtime.NumGoroutine") = false := by kernel_rfl
theorem bd46 : Tryz.f46.body.isNone = false := by kernel_rfl
theorem nm47 : (Tryz.f47.name == "runtime.NumGoroutine") = false := by kernel_rfl
theorem bd47 : Tryz.f47.body.isNone = false := by kernel_rfl
theorem nm48 : (Tryz.f48.name == "runtime.NumGoroutine") = false := by kernel_rfl
theorem bd48 : Tryz.f48.body.isNone = false := by kernel_rfl
theorem nm49 : (Tryz.f49.name == "runtime.NumGoroutine") = false := by kernel_rfl
theorem bd49 : Tryz.f49.body.isNone = false := by kernel_rfl
theorem nm50 : (Tryz.f50.name == "runtime.NumGoroutine") = false := by kernel_rfl
theorem bd50 : Tryz.f50.body.isNone = false := by kernel_rfl
theorem nm51 : (Tryz.f51.name == "runtime.NumGoroutine") = false := by kernel_rfl
theorem bd51 : Tryz.f51.body.isNone = false := by kernel_rfl
theorem nm52 : (Tryz.f52.name == "runtime.NumGoroutine") = false := by kernel_rfl
theorem bd52 : Tryz.f52.body.isNone = false := by kernel_rfl
theorem nm53 : (Tryz.f53.name == "runtime.NumGoroutine") = false := by kernel_rfl
theorem bd53 : Tryz.f53.body.isNone = false := by kernel_rfl
theorem nm54 : (Tryz.f54.name == "runtime.NumGoroutine") = false := by kernel_rfl
theorem bd54 : Tryz.f54.body.isNone = false := by kernel_rfl
theorem nm55 : (Tryz.f55.name == "runtime.NumGoroutine") = false := by kernel_rfl
theorem bd55 : Tryz.f55.body.isNone = false := by kernel_rfl
theorem nm56 : (Tryz.f56.name == "runtime.NumGoroutine") = false := by kernel_rfl
theorem bd56 : Tryz.f56.body.isNone = false := by kernel_rfl
theorem nm57 : (Tryz.f57.name == "runtime.NumGoroutine") = false := by kernel_rfl
theorem bd57 : Tryz.f57.body.isNone = false := by kernel_rfl
theorem nm58 : (Tryz.f58.name == "runtime.NumGoroutine") = false := by kernel_rfl
theorem bd58 : Tryz.f58.body.isNone = false := by kernel_rfl
theorem nm59 : (Tryz.f59.name == "runtime.NumGoroutine") = false := by kernel_rfl
theorem bd59 : Tryz.f59.body.isNone = false := by kernel_rfl
theorem nm60 : (Tryz.f60.name == "runtime.NumGoroutine") = false := by kernel_rfl
theorem bd60 : Tryz.f60.body.isNone = false := by kernel_rfl
theorem nm61 : (Tryz.f61.name == "runtime.NumGoroutine") = false := by kernel_rfl
theorem bd61 : Tryz.f61.body.isNone = false := by kernel_rfl
theorem nm62 : (Tryz.f62.name == "runtime.NumGoroutine") = false := by kernel_rfl
theorem bd62 : Tryz.f62.body.isNone = false := by kernel_rfl
theorem nm63 : (Tryz.f63.name == "runtime.NumGoroutine") = false := by kernel_rfl
theorem bd63 : Tryz.f63.body.isNone = false := by kernel_rfl
theorem nm64 : (Tryz.f64.name == "runtime.NumGoroutine") = false := by kernel_rfl
theorem bd64 : Tryz.f64.body.isNone = false := by kernel_rfl
theorem nm65 : (Tryz.f65.name == "runtime.NumGoroutine") = false := by kernel_rfl
theorem bd65 : Tryz.f65.body.isNone = false := by kernel_rfl
theorem nm66 : (Tryz.f66.name == "runtime.NumGoroutine") = false := by kernel_rfl
theorem bd66 : Tryz.f66.body.isNone = false := by kernel_rfl
theorem nm67 : (Tryz.f67.name == "runtime.NumGoroutine") = false := by kernel_rfl
theorem bd67 : Tryz.f67.body.isNone = false := by kernel_rfl
theorem nm68 : (Tryz.f68.name == "runtime.NumGoroutine") = false := by kernel_rfl
theorem bd68 : Tryz.f68.body.isNone = false := by kernel_rfl
theorem nm69 : (Tryz.f69.name == "runtime.NumGoroutine") = false := by kernel_rfl
theorem bd69 : Tryz.f69.body.isNone = false := by kernel_rfl
theorem nm70 : (Tryz.f70.name == "runtime.NumGoroutine") = false := by kernel_rfl
theorem bd70 : Tryz.f70.body.isNone = false := by kernel_rfl
theorem nm71 : (Tryz.f71.name == "runtime.NumGoroutine") = false := by kernel_rfl
theorem bd71 : Tryz.f71.body.isNone = false := by kernel_rfl
theorem nm72 : (Tryz.f72.name == "runtime.NumGoroutine") = false := by kernel_rfl
theorem bd72 : Tryz.f72.body.isNone = false := by kernel_rfl
theorem nm73 : (Tryz.f73.name == "runtime.NumGoroutine") = false := by kernel_rfl
theorem bd73 : Tryz.f73.body.isNone = false := by kernel_rfl
theorem nm74 : (Tryz.f74.name == "runtime.NumGoroutine") = false := by kernel_rfl
theorem bd74 : Tryz.f74.body.isNone = false := by kernel_rfl
theorem nm75 : (Tryz.f75.name == "runtime.NumGoroutine") = false := by kernel_rfl
theorem bd75 : Tryz.f75.body.isNone = false := by kernel_rfl
theorem nm76 : (Tryz.f76.name == "runtime.NumGoroutine") = false := by kernel_rfl
theorem bd76 : Tryz.f76.body.isNone = false := by kernel_rfl
theorem nm77 : (Tryz.f77.name == "runtime.NumGoroutine") = false := by kernel_rfl
theorem bd77 : Tryz.f77.body.isNone = false := by kernel_rfl
theorem nm78 : (Tryz.f78.name == "runtime.NumGoroutine") = false := by kernel_rfl
theorem bd78 : Tryz.f78.body.isNone = false := by kernel_rfl
theorem nm79 : (Tryz.f79.name == "runtime.NumGoroutine") = false := by kernel_rfl
theorem bd79 : Tryz.f79.body.isNone = false := by kernel_rfl
theorem nm80 : (Tryz.f80.name == "runtime.NumGoroutine") = false := by kernel_rfl
theorem bd80 : Tryz.f80.body.isNone = false := by kernel_rfl
theorem nm81 : (Tryz.f81.name == "runtime.NumGoroutine") = false := by kernel_rfl
theorem bd81 : Tryz.f81.body.isNone = false := by kernel_rfl
theorem nm82 : (Tryz.f82.name == "runtime.NumGoroutine") = false := by kernel_rfl
theorem bd82 : Tryz.f82.body.isNone = false := by kernel_rfl
theorem nm83 : (Tryz.f83.name == "runtime.NumGoroutine") = false := by kernel_rfl
theorem bd83 : Tryz.f83.body.isNone = false := by kernel_rfl
theorem nm84 : (Tryz.f84.name == "runtime.NumGoroutine") = false := by kernel_rfl
theorem bd84 : Tryz.f84.body.isNone = false := by kernel_rfl
theorem nm85 : (Tryz.f85.name == "runtime.NumGoroutine") = false := by kernel_rfl
theorem bd85 : Tryz.f85.body.isNone = false := by kernel_rfl
theorem nm86 : (Tryz.f86.name == "runtime.NumGoroutine") = false := by kernel_rfl
theorem bd86 : Tryz.f86.body.isNone = false := by kernel_rfl
theorem nm87 : (Tryz.f87.name == "runtime.NumGoroutine") = false := by kernel_rfl
theorem bd87 : Tryz.f87.body.isNone = false := by kernel_rfl
theorem nm88 : (Tryz.f88.name == "runtime.NumGoroutine") = false := by kernel_rfl
theorem bd88 : Tryz.f88.body.isNone = false := by kernel_rfl
theorem nm89 : (Tryz.f89.name == "runtime.NumGoroutine") = false := by kernel_rfl
theorem bd89 : Tryz.f89.body.isNone = false := by kernel_rfl
theorem nm90 : (Tryz.f90.name == "runtime.NumGoroutine") = false := by kernel_rfl
theorem bd90 : Tryz.f90.body.isNone = false := by kernel_rfl
theorem nm91 : (Tryz.f91.name == "runtime.NumGoroutine") = false := by kernel_rfl
theorem bd91 : Tryz.f91.body.isNone = false := by kernel_rfl
theorem nm92 : (Tryz.f92.name == "runtime.NumGoroutine") = false := by kernel_rfl
theorem bd92 : Tryz.f92.body.isNone = false := by kernel_rfl
theorem nm93 : (Tryz.f93.name == "runtime.NumGoroutine") = false := by kernel_rfl
theorem bd93 : Tryz.f93.body.isNone = false := by kernel_rfl
theorem nm94 : (Tryz.f94.name == "runtime.NumGoroutine") = false := by kernel_rfl
theorem bd94 : Tryz.f94.body.isNone = false := by kernel_rfl
theorem nm95 : (Tryz.f95.name == "runtime.NumGoroutine") = false := by kernel_rfl
theorem bd95 : Tryz.f95.body.isNone = false := by kernel_rfl
theorem nm96 : (Tryz.f96.name == "runtime.NumGoroutine") = false := by kernel_rfl
theorem bd96 : Tryz.f96.body.isNone = false := by kernel_rfl
theorem nm97 : (Tryz.f97.name == "runtime.NumGoroutine") = false := by kernel_rfl
theorem bd97 : Tryz.f97.body.isNone = false := by kernel_rfl
theorem nm98 : (Tryz.f98.name == "runtime.NumGoroutine") = false := by kernel_rfl
theorem bd98 : Tryz.f98.body.isNone = false := by kernel_rfl
theorem nm99 : (Tryz.f99.name == "runtime.NumGoroutine") = false := by kernel_rfl
theorem bd99 : Tryz.f99.body.isNone = false := by kernel_rfl
theorem nm100 : (Tryz.f100.name == "runtime.NumGoroutine") = false := by kernel_rfl
theorem bd100 : Tryz.f100.body.isNone = false := by kernel_rfl
theorem nm101 : (Tryz.f101.name == "runtime.NumGoroutine") = false := by kernel_rfl
theorem bd101 : Tryz.f101.body.isNone = false := by kernel_rfl
theorem nm102 : (Tryz.f102.name == "runtime.NumGoroutine") = false := by kernel_rfl
theorem bd102 : Tryz.f102.body.isNone = false := by kernel_rfl
theorem nm103 : (Tryz.f103.name == "runtime.NumGoroutine") = false := by kernel_rfl
theorem bd103 : Tryz.f103.body.isNone = false := by kernel_rfl
theorem nm104 : (Tryz.f104.name == "runtime.NumGoroutine") = false := by kernel_rfl
theorem bd104 : Tryz.f104.body.isNone = false := by kernel_rfl
theorem nm105 : (Tryz.f105.name == "runtime.NumGoroutine") = false := by kernel_rfl
theorem bd105 : Tryz.f105.body.isNone = false := by kernel_rfl
theorem nm106 : (Tryz.f106.name == "runtime.NumGoroutine") = false := by kernel_rfl
theorem bd106 : Tryz.f106.body.isNone = false := by kernel_rfl
theorem nm107 : (Tryz.f107.name == "runtime.NumGoroutine") = false := by kernel_rfl
theorem bd107 : Tryz.f107.body.isNone = false := by kernel_rfl
theorem nm108 : (Tryz.f108.name == "runtime.NumGoroutine") = false := by kernel_rfl
theorem bd108 : Tryz.f108.body.isNone = false := by kernel_rfl
theorem nm109 : (Tryz.f109.name == "runtime.NumGoroutine") = false := by kernel_rfl
theorem bd109 : Tryz.f109.body.isNone = false := by kernel_rfl
theorem nm110 : (Tryz.f110.name == "runtime.NumGoroutine") = false := by kernel_rfl
theorem bd110 : Tryz.f110.body.isNone = false := by kernel_rfl
theorem nm111 : (Tryz.f111.name == "runtime.NumGoroutine") = false := by kernel_rfl
theorem bd111 : Tryz.f111.body.isNone = false := by kernel_rfl
theorem nm112 : (Tryz.f112.name == "runtime.NumGoroutine") = false := by kernel_rfl
theorem bd112 : Tryz.f112.body.isNone = false := by kernel_rfl
theorem nm113 : (Tryz.f113.name == "runtime.NumGoroutine") = false := by kernel_rfl
theorem bd113 : Tryz.f113.body.isNone = false := by kernel_rfl
theorem nm114 : (Tryz.f114.name == "runtime.NumGoroutine") = false := by kernel_rfl
theorem bd114 : Tryz.f114.body.isNone = false := by kernel_rfl
theorem nm115 : (Tryz.f115.name == "runtime.NumGoroutine") = false := by kernel_rfl
theorem bd115 : Tryz.f115.body.isNone = false := by kernel_rfl
theorem nm116 : (Tryz.f116.name == "runtime.NumGoroutine") = false := by kernel_rfl
theorem bd116 : Tryz.f116.body.isNone = false := by kernel_rfl
theorem nm117 : (Tryz.f117.name == "runtime.NumGoroutine") = false := by kernel_rfl
theorem bd117 : Tryz.f117.body.isNone = false := by kernel_rfl
theorem nm118 : (Tryz.f118.name == "runtime.NumGoroutine") = false := by kernel_rfl
theorem bd118 : Tryz.f118.body.isNone = false := by kernel_rfl
theorem nm119 : (Tryz.f119.name == "runtime.NumGoroutine") = false := by kernel_rfl
theorem bd119 : Tryz.f119.body.isNone = false := by kernel_rfl
theorem nm120 : (Tryz.f120.name == "runtime.NumGoroutine") = false := by kernel_rfl
theorem bd120 : Tryz.f120.body.isNone = false := by kernel_rfl
theorem nm121 : (Tryz.f121.name == "runtime.NumGoroutine") = false := by kernel_rfl
theorem bd121 : Tryz.f121.body.isNone = false := by kernel_rfl
theorem nm122 : (Tryz.f122.name == "runtime.NumGoroutine") = false := by kernel_rfl
theorem bd122 : Tryz.f122.body.isNone = false := by kernel_rfl
theorem nm123 : (Tryz.f123.name == "runtime.NumGoroutine") = false := by kernel_rfl
theorem bd123 : Tryz.f123.body.isNone = false := by kernel_rfl
theorem nm124 : (Tryz.f124.name == "runtime.NumGoroutine") = false := by kernel_rfl
theorem bd124 : Tryz.f124.body.isNone = false := by kernel_rfl
theorem nm125 : (Tryz.f125.name == "runtime.NumGoroutine") = false := by kernel_rfl
theorem bd125 : Tryz.f125.body.isNone = false := by kernel_rfl
theorem nm126 : (Tryz.f126.name == "runtime.NumGoroutine") = false := by kernel_rfl
theorem bd126 : Tryz.f126.body.isNone = false := by kernel_rfl
theorem nm127 : (Tryz.f127.name == "runtime.NumGoroutine") = false := by kernel_rfl
theorem bd127 : Tryz.f127.body.isNone = false := by kernel_rfl
theorem nm128 : (Tryz.f128.name == "runtime.NumGoroutine") = false := by kernel_rfl
theorem bd128 : Tryz.f128.body.isNone = false := by kernel_rfl
theorem nm129 : (Tryz.f129.name == "runtime.NumGoroutine") = false := by kernel_rfl
theorem bd129 : Tryz.f129.body.isNone = false := by kernel_rfl
theorem nm130 : (Tryz.f130.name == "runtime.NumGoroutine") = false := by kernel_rfl
theorem bd130 : Tryz.f130.body.isNone = false := by kernel_rfl
theorem nm131 : (Tryz.f131.name == "runtime.NumGoroutine") = false := by kernel_rfl
theorem bd131 : Tryz.f131.body.isNone = false := by kernel_rfl
theorem nm132 : (Tryz.f132.name == "runtime.NumGoroutine") = false := by kernel_rfl
theorem bd132 : Tryz.f132.body.isNone = false := by kernel_rfl
theorem nm133 : (Tryz.f133.name == "runtime.NumGoroutine") = false := by kernel_rfl
theorem bd133 : Tryz.f133.body.isNone = false := by kernel_rfl
theorem nm134 : (Tryz.f134.name == "runtime.NumGoroutine") = false := by kernel_rfl
theorem bd134 : Tryz.f134.body.isNone = false := by kernel_rfl
theorem nm135 : (Tryz.f135.name == "runtime.NumGoroutine") = false := by kernel_rfl
theorem bd135 : Tryz.f135.body.isNone = false := by kernel_rfl
theorem nm136 : (Tryz.f136.name == "runtime.NumGoroutine") = false := by kernel_rfl
theorem bd136 : Tryz.f136.body.isNone = false := by kernel_rfl
theorem nm137 : (Tryz.f137.name == "runtime.NumGoroutine") = false := by kernel_rfl
theorem bd137 : Tryz.f137.body.isNone = false := by kernel_rfl
theorem nm138 : (Tryz.f138.name == "runtime.NumGoroutine") = false := by kernel_rfl
theorem bd138 : Tryz.f138.body.isNone = false := by kernel_rfl
theorem nm139 : (Tryz.f139.name == "runtime.NumGoroutine") = false := by kernel_rfl
theorem bd139 : Tryz.f139.body.isNone = false := by kernel_rfl
theorem nm140 : (Tryz.f140.name == "runtime.NumGoroutine") = false := by kernel_rfl
theorem bd140 : Tryz.f140.body.isNone = false := by kernel_rfl
theorem nm141 : (Tryz.f141.name == "runtime.NumGoroutine") = false := by kernel_rfl
theorem bd141 : Tryz.f141.body.isNone = false := by kernel_rfl
theorem nm142 : (Tryz.f142.name == "runtime.NumGoroutine") = false := by kernel_rfl
theorem bd142 : Tryz.f142.body.isNone = false := by kernel_rfl
theorem nm143 : (Tryz.f143.name == "runtime.NumGoroutine") = false := by kernel_rfl
theorem bd143 : Tryz.f143.body.isNone = false := by kernel_rfl
theorem nm144 : (Tryz.f144.name == "runtime.NumGoroutine") = false := by kernel_rfl
theorem bd144 : Tryz.f144.body.isNone = false := by kernel_rfl
theorem nm145 : (Tryz.f145.name == "runtime.NumGoroutine") = false := by kernel_rfl
theorem bd145 : Tryz.f145.body.isNone = false := by kernel_rfl
theorem nm146 : (Tryz.f146.name == "runtime.NumGoroutine") = false := by kernel_rfl
theorem bd146 : Tryz.f146.body.isNone = false := by kernel_rfl
theorem nm147 : (Tryz.f147.name == "runtime.NumGoroutine") = false := by kernel_rfl
theorem bd147 : Tryz.f147.body.isNone = false := by kernel_rfl
theorem nm148 : (Tryz.f148.name == "runtime.NumGoroutine") = false := by kernel_rfl
theorem bd148 : Tryz.f148.body.isNone = false := by kernel_rfl
theorem nm149 : (Tryz.f149.name == "runtime.NumGoroutine") = false := by kernel_rfl
theorem bd149 : Tryz.f149.body.isNone = false := by kernel_rfl
theorem nm150 : (Tryz.f150.name == "runtime.NumGoroutine") = false := by kernel_rfl
theorem bd150 : Tryz.f150.body.isNone = false := by kernel_rfl
theorem nm151 : (Tryz.f151.name == "runtime.NumGoroutine") = false := by kernel_rfl
theorem bd151 : Tryz.f151.body.isNone = false := by kernel_rfl
theorem nm152 : (Tryz.f152.name == "runtime.NumGoroutine") = false := by kernel_rfl
theorem bd152 : Tryz.f152.body.isNone = false := by kernel_rfl
theorem nm153 : (Tryz.f153.name == "runtime.NumGoroutine") = false := by kernel_rfl
theorem bd153 : Tryz.f153.body.isNone = false := by kernel_rfl
theorem nm154 : (Tryz.f154.name == "runtime.NumGoroutine") = false := by kernel_rfl
theorem bd154 : Tryz.f154.body.isNone = false := by kernel_rfl
theorem nm155 : (Tryz.f155.name == "runtime.NumGoroutine") = false := by kernel_rfl
theorem bd155 : Tryz.f155.body.isNone = false := by kernel_rfl
theorem nm156 : (Tryz.f156.name == "runtime.NumGoroutine") = false := by kernel_rfl
theorem bd156 : Tryz.f156.body.isNone = false := by kernel_rfl
theorem nm157 : (Tryz.f157.name == "runtime.NumGoroutine") = false := by kernel_rfl
theorem bd157 : Tryz.f157.body.isNone = false := by kernel_rfl
theorem nm158 : (Tryz.f158.name == "runtime.NumGoroutine") = false := by kernel_rfl
theorem bd158 : Tryz.f158.body.isNone = false := by kernel_rfl
theorem nm159 : (Tryz.f159.name == "runtime.NumGoroutine") = false := by kernel_rfl
theorem bd159 : Tryz.f159.body.isNone = false := by kernel_rfl
theorem nm160 : (Tryz.f160.name == "runtime.NumGoroutine") = false := by kernel_rfl
theorem bd160 : Tryz.f160.body.isNone = false := by kernel_rfl
theorem nm161 : (Tryz.f161.name == "runtime.NumGoroutine") = false := by kernel_rfl
theorem bd161 : Tryz.f161.body.isNone = false := by kernel_rfl
theorem nm162 : (Tryz.f162.name == "runtime.NumGoroutine") = false := by kernel_rfl
theorem bd162 : Tryz.f162.body.isNone = false := by kernel_rfl
theorem nm163 : (Tryz.f163.name == "runtime.NumGoroutine") = false := by kernel_rfl
theorem bd163 : Tryz.f163.body.isNone = false := by kernel_rfl
theorem nm164 : (Tryz.f164.name == "runtime.NumGoroutine") = false := by kernel_rfl
theorem bd164 : Tryz.f164.body.isNone = false := by kernel_rfl
theorem nm165 : (Tryz.f165.name == "runtime.NumGoroutine") = false := by kernel_rfl
theorem bd165 : Tryz.f165.body.isNone = false := by kernel_rfl
theorem nm166 : (Tryz.f166.name == "runtime.NumGoroutine") = false := by kernel_rfl
theorem bd166 : Tryz.f166.body.isNone = false := by kernel_rfl
theorem nm167 : (Tryz.f167.name == "runtime.NumGoroutine") = false := by kernel_rfl
theorem bd167 : Tryz.f167.body.isNone = false := by kernel_rfl
theorem nm168 : (Tryz.f168.name == "runtime.NumGoroutine") = false := by kernel_rfl
theorem bd168 : Tryz.f168.body.isNone = false := by kernel_rfl
theorem nm169 : (Tryz.f169.name == "runtime.NumGoroutine") = false := by kernel_rfl
theorem bd169 : Tryz.f169.body.isNone = false := by kernel_rfl
theorem nm170 : (Tryz.f170.name == "runtime.NumGoroutine") = false := by kernel_rfl
theorem bd170 : Tryz.f170.body.isNone = false := by kernel_rfl
theorem nm171 : (Tryz.f171.name == "runtime.NumGoroutine") = false := by kernel_rfl
theorem bd171 : Tryz.f171.body.isNone = false := by kernel_rfl
theorem nm172 : (Tryz.f172.name == "runtime.NumGoroutine") = false := by kernel_rfl
theorem bd172 : Tryz.f172.body.isNone = false := by kernel_rfl
theorem nm173 : (Tryz.f173.name == "runtime.NumGoroutine") = false := by kernel_rfl
theorem bd173 : Tryz.f173.body.isNone = false := by kernel_rfl
theorem nm174 : (Tryz.f174.name == "runtime.NumGoroutine") = false := by kernel_rfl
theorem bd174 : Tryz.f174.body.isNone = false := by kernel_rfl
theorem nm175 : (Tryz.f175.name == "runtime.NumGoroutine") = false := by kernel_rfl
theorem bd175 : Tryz.f175.body.isNone = false := by kernel_rfl
theorem nm176 : (Tryz.f176.name == "runtime.NumGoroutine") = false := by kernel_rfl
theorem bd176 : Tryz.f176.body.isNone = false := by kernel_rfl
theorem nm177 : (Tryz.f177.name == "runtime.NumGoroutine") = false := by kernel_rfl
theorem bd177 : Tryz.f177.body.isNone = false := by kernel_rfl
theorem nm178 : (Tryz.f178.name == "runtime.NumGoroutine") = false := by kernel_rfl
theorem bd178 : Tryz.f178.body.isNone = false := by kernel_rfl
theorem nm179 : (Tryz.f179.name == "runtime.NumGoroutine") = false := by kernel_rfl
theorem bd179 : Tryz.f179.body.isNone = false := by kernel_rfl
theorem nm180 : (Tryz.f180.name == "runtime.NumGoroutine") = false := by kernel_rfl
theorem bd180 : Tryz.f180.body.isNone = false := by kernel_rfl
theorem nm181 : (Tryz.f181.name == "runtime.NumGoroutine") = false := by kernel_rfl
theorem bd181 : Tryz.f181.body.isNone = false := by kernel_rfl
theorem nm182 : (Tryz.f182.name == "runtime.NumGoroutine") = false := by kernel_rfl
theorem bd182 : Tryz.f182.body.isNone = false := by kernel_rfl
theorem nm183 : (Tryz.f183.name == "runtime.NumGoroutine") = false := by kernel_rfl
theorem bd183 : Tryz.f183.body.isNone = false := by kernel_rfl
theorem nm184 : (Tryz.f184.name == "runtime.NumGoroutine") = false := by kernel_rfl
theorem bd184 : Tryz.f184.body.isNone = false := by kernel_rfl
theorem nm185 : (Tryz.f185.name == "runtime.NumGoroutine") = false := by kernel_rfl
theorem bd185 : Tryz.f185.body.isNone = false := by kernel_rfl
theorem nm186 : (Tryz.f186.name == "runtime.NumGoroutine") = false := by kernel_rfl
theorem bd186 : Tryz.f186.body.isNone = false := by kernel_rfl
theorem nm187 : (Tryz.f187.name == "runtime.NumGoroutine") = false := by kernel_rfl
theorem bd187 : Tryz.f187.body.isNone = false := by kernel_rfl
theorem nm188 : (Tryz.f188.name == "runtime.NumGoroutine") = false := by kernel_rfl
theorem bd188 : Tryz.f188.body.isNone = false := by kernel_rfl
theorem nm189 : (Tryz.f189.name == "runtime.NumGoroutine") = false := by kernel_rfl
theorem bd189 : Tryz.f189.body.isNone = false := by kernel_rfl
theorem nm190 : (Tryz.f190.name == "runtime.NumGoroutine") = false := by kernel_rfl
theorem bd190 : Tryz.f190.body.isNone = false := by kernel_rfl
theorem nm191 : (Tryz.f191.name == "runtime.NumGoroutine") = false := by kernel_rfl
theorem bd191 : Tryz.f191.body.isNone = false := by kernel_rfl
theorem nm192 : (Tryz.f192.name == "runtime.NumGoroutine") = false := by kernel_rfl
theorem bd192 : Tryz.f192.body.isNone = false := by kernel_rfl
theorem nm193 : (Tryz.f193.name == "runtime.NumGoroutine") = false := by kernel_rfl
theorem bd193 : Tryz.f193.body.isNone = false := by kernel_rfl
theorem nm194 : (Tryz.f194.name == "runtime.NumGoroutine") = false := by kernel_rfl
theorem bd194 : Tryz.f194.body.isNone = false := by kernel_rfl
theorem nm195 : (Tryz.f195.name == "runtime.NumGoroutine") = false := by kernel_rfl
theorem bd195 : Tryz.f195.body.isNone = false := by kernel_rfl
theorem nm196 : (Tryz.f196.name == "runtime.NumGoroutine") = false := by kernel_rfl
theorem bd196 : Tryz.f196.body.isNone = false := by kernel_rfl
theorem nm197 : (Tryz.f197.name == "runtime.NumGoroutine") = false := by kernel_rfl
theorem bd197 : Tryz.f197.body.isNone = false := by kernel_rfl
theorem nm198 : (Tryz.f198.name == "runtime.NumGoroutine") = false := by kernel_rfl
theorem bd198 : Tryz.f198.body.isNone = false := by kernel_rfl
theorem nm199 : (Tryz.f199.name == "runtime.NumGoroutine") = false := by kernel_rfl
theorem bd199 : Tryz.f199.body.isNone = false := by kernel_rfl
theorem nm200 : (Tryz.f200.name == "runtime.NumGoroutine") = false := by kernel_rfl
theorem bd200 : Tryz.f200.body.isNone = false := by kernel_rfl
theorem nm201 : (Tryz.f201.name == "runtime.NumGoroutine") = false := by kernel_rfl
theorem bd201 : Tryz.f201.body.isNone = false := by kernel_rfl
theorem nm202 : (Tryz.f202.name == "runtime.NumGoroutine") = false := by kernel_rfl
theorem bd202 : Tryz.f202.body.isNone = false := by kernel_rfl
theorem nm203 : (Tryz.f203.name == "runtime.NumGoroutine") = false := by kernel_rfl
theorem bd203 : Tryz.f203.body.isNone = false := by kernel_rfl
theorem nm204 : (Tryz.f204.name == "runtime.NumGoroutine") = false := by kernel_rfl
theorem nm205 : (Tryz.f205.name == "runtime.NumGoroutine") = false := by kernel_rfl
theorem nm206 : (Tryz.f206.name == "runtime.NumGoroutine") = false := by kernel_rfl
theorem nm207 : (Tryz.f207.name == "runtime.NumGoroutine") = false := by kernel_rfl
theorem nm208 : (Tryz.f208.name == "runtime.NumGoroutine") = false := by kernel_rfl
theorem nm209 : (Tryz.f209.name == "runtime.NumGoroutine") = false := by kernel_rfl
theorem nm210 : (Tryz.f210.name == "runtime.NumGoroutine") = false := by kernel_rfl
theorem nm211 : (Tryz.f211.name == "runtime.NumGoroutine") = false := by kernel_rfl
theorem nm212 : (Tryz.f212.name == "runtime.NumGoroutine") = false := by kernel_rfl
theorem nm213 : (Tryz.f213.name == "runtime.NumGoroutine") = false := by kernel_rfl
theorem nm214 : (Tryz.f214.name == "runtime.NumGoroutine") = false := by kernel_rfl
theorem nm215 : (Tryz.f215.name == "runtime.NumGoroutine") = false := by kernel_rfl
theorem nm216 : (Tryz.f216.name == "runtime.NumGoroutine") = false := by kernel_rfl
theorem nm217 : (Tryz.f217.name == "runtime.NumGoroutine") = false := by kernel_rfl
theorem nm218 : (Tryz.f218.name == "runtime.NumGoroutine") = false := by kernel_rfl
theorem nm219 : (Tryz.f219.name == "runtime.NumGoroutine") = false := by kernel_rfl
theorem nm220 : (Tryz.f220.name == "runtime.NumGoroutine") = false := by kernel_rfl
theorem nm221 : (Tryz.f221.name == "runtime.NumGoroutine") = false := by kernel_rfl
theorem nm222 : (Tryz.f222.name == "runtime.NumGoroutine") = false := by kernel_rfl
theorem nm223 : (Tryz.f223.name == "runtime.NumGoroutine") = false := by kernel_rfl
theorem nm224 : (Tryz.f224.name == "runtime.NumGoroutine") = false := by kernel_rfl
theorem nm225 : (Tryz.f225.name == "runtime.NumGoroutine") = false := by kernel_rfl
theorem nm226 : (Tryz.f226.name == "runtime.NumGoroutine") = false := by kernel_rfl
theorem nm227 : (Tryz.f227.name == "runtime.NumGoroutine") = false := by kernel_rfl
theorem nm228 : (Tryz.f228.name == "runtime.NumGoroutine") = false := by kernel_rfl
theorem nm229 : (Tryz.f229.name == "runtime.NumGoroutine") = false := by kernel_rfl
theorem nm230 : (Tryz.f230.name == "runtime.NumGoroutine") = false := by kernel_rfl
theorem nm231 : (Tryz.f231.name == "runtime.NumGoroutine") = false := by kernel_rfl
theorem nm232 : (Tryz.f232.name == "runtime.NumGoroutine") = false := by kernel_rfl
theorem mixed : Tryz.prog.follows .mixedOrders = true := by kernel_rfl
end Go.Pse
