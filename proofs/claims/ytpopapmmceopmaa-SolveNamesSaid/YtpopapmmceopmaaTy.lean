/- The types of the program that the runner knows, as the program has them. -/
import Derived.Test.YtpopapmmceopmaaProg
import Derived.Test.YtpopapmmceopmaaSX
namespace Go.Proofs.Ytpopapmmceopmaa.X
open Go
def ty1 : TI := ⟨1, 8, .func, [.nilFunc], true⟩
def ty2 : TI := ⟨1, 8, .int .i64, [.int .i64 0], true⟩
def ty3 : TI := ⟨1, 8, .int .i64, [.int .i64 0], true⟩
def ty4 : TI := ⟨1, 1, .bool, [.bool false], true⟩
def ty5 : TI := ⟨1, 1, .int .u8, [.int .u8 0], true⟩
def ty6 : TI := ⟨1, 1, .int .u8, [.int .u8 0], true⟩
def ty7 : TI := ⟨4, 24, .strct [(2, 0), (3, 1), (4, 2), (6, 3)], [.int .i64 0, .int .i64 0, .bool false, .int .u8 0], true⟩
def ty8 : TI := ⟨4, 24, .strct [(2, 0), (3, 1), (4, 2), (6, 3)], [.int .i64 0, .int .i64 0, .bool false, .int .u8 0], true⟩
def ty9 : TI := ⟨1, 16, .str, [.string ByteArray.empty], true⟩
def ty10 : TI := ⟨1, 16, .str, [.string ByteArray.empty], true⟩
def ty11 : TI := ⟨1, 16, .str, [.string ByteArray.empty], true⟩
def ty12 : TI := ⟨1, 8, .int .u64, [.int .u64 0], true⟩
def ty13 : TI := ⟨2, 24, .strct [(9, 0), (12, 1)], [.string ByteArray.empty, .int .u64 0], false⟩
def ty14 : TI := ⟨2, 24, .strct [(9, 0), (12, 1)], [.string ByteArray.empty, .int .u64 0], false⟩
def ty15 : TI := ⟨1, 8, .ptr 210, [.pointer none], true⟩
def ty16 : TI := ⟨1, 8, .ptr 213, [.pointer none], true⟩
def ty17 : TI := ⟨1, 8, .ptr 222, [.pointer none], true⟩
def ty18 : TI := ⟨1, 8, .strct [(17, 0)], [.pointer none], false⟩
def ty19 : TI := ⟨1, 8, .strct [(17, 0)], [.pointer none], false⟩
def ty20 : TI := ⟨1, 16, .iface, [.nilIface], true⟩
def ty21 : TI := ⟨1, 4, .int .i32, [.int .i32 0], true⟩
def ty22 : TI := ⟨1, 24, .slice 23, [.slice none 0 0], true⟩
def ty23 : TI := ⟨1, 24, .slice 3, [.slice none 0 0], true⟩
def ty24 : TI := ⟨2, 48, .strct [(22, 0), (23, 1)], [.slice none 0 0, .slice none 0 0], true⟩
def ty25 : TI := ⟨2, 48, .strct [(22, 0), (23, 1)], [.slice none 0 0, .slice none 0 0], true⟩
def ty26 : TI := ⟨1, 8, .func, [.nilFunc], true⟩
def ty27 : TI := ⟨1, 8, .func, [.nilFunc], true⟩
def ty28 : TI := ⟨1, 24, .slice 40, [.slice none 0 0], true⟩
def ty29 : TI := ⟨1, 24, .slice 28, [.slice none 0 0], true⟩
def ty30 : TI := ⟨1, 8, .int .i64, [.int .i64 0], true⟩
def ty32 : TI := ⟨1, 8, .func, [.nilFunc], true⟩
def ty33 : TI := ⟨1, 8, .func, [.nilFunc], true⟩
def ty34 : TI := ⟨1, 8, .func, [.nilFunc], true⟩
def ty35 : TI := ⟨1, 8, .func, [.nilFunc], true⟩
def ty37 : TI := ⟨1, 8, .func, [.nilFunc], true⟩
def ty38 : TI := ⟨1, 8, .func, [.nilFunc], true⟩
def ty39 : TI := ⟨2, 16, .strct [(2, 0), (2, 1)], [.int .i64 0, .int .i64 0], true⟩
def ty40 : TI := ⟨2, 16, .strct [(2, 0), (2, 1)], [.int .i64 0, .int .i64 0], true⟩
def ty41 : TI := ⟨1, 8, .func, [.nilFunc], true⟩
def ty42 : TI := ⟨1, 8, .func, [.nilFunc], true⟩
def ty44 : TI := ⟨1, 8, .func, [.nilFunc], true⟩
def ty46 : TI := ⟨1, 8, .func, [.nilFunc], true⟩
def ty48 : TI := ⟨1, 8, .func, [.nilFunc], true⟩
def ty49 : TI := ⟨1, 8, .func, [.nilFunc], true⟩
def ty50 : TI := ⟨1, 24, .slice 25, [.slice none 0 0], true⟩
def ty51 : TI := ⟨1, 8, .func, [.nilFunc], true⟩
def ty53 : TI := ⟨1, 8, .func, [.nilFunc], true⟩
def ty54 : TI := ⟨1, 8, .func, [.nilFunc], true⟩
def ty55 : TI := ⟨1, 24, .slice 61, [.slice none 0 0], true⟩
def ty56 : TI := ⟨3, 24, .strct [(2, 0), (2, 1), (2, 2)], [.int .i64 0, .int .i64 0, .int .i64 0], true⟩
def ty57 : TI := ⟨3, 24, .strct [(2, 0), (2, 1), (2, 2)], [.int .i64 0, .int .i64 0, .int .i64 0], true⟩
def ty58 : TI := ⟨6, 48, .strct [(3, 0), (3, 1), (57, 2), (3, 5)], [.int .i64 0, .int .i64 0, .int .i64 0, .int .i64 0, .int .i64 0, .int .i64 0], true⟩
def ty59 : TI := ⟨6, 48, .strct [(3, 0), (3, 1), (57, 2), (3, 5)], [.int .i64 0, .int .i64 0, .int .i64 0, .int .i64 0, .int .i64 0, .int .i64 0], true⟩
def ty60 : TI := ⟨8, 64, .strct [(3, 0), (3, 1), (59, 2)], [.int .i64 0, .int .i64 0, .int .i64 0, .int .i64 0, .int .i64 0, .int .i64 0, .int .i64 0, .int .i64 0], true⟩
def ty61 : TI := ⟨8, 64, .strct [(3, 0), (3, 1), (59, 2)], [.int .i64 0, .int .i64 0, .int .i64 0, .int .i64 0, .int .i64 0, .int .i64 0, .int .i64 0, .int .i64 0], true⟩
def ty62 : TI := ⟨1, 24, .slice 4, [.slice none 0 0], true⟩
def ty63 : TI := ⟨3, 40, .strct [(3, 0), (3, 1), (62, 2)], [.int .i64 0, .int .i64 0, .slice none 0 0], true⟩
def ty64 : TI := ⟨3, 40, .strct [(3, 0), (3, 1), (62, 2)], [.int .i64 0, .int .i64 0, .slice none 0 0], true⟩
def ty65 : TI := ⟨1, 8, .func, [.nilFunc], true⟩
def ty66 : TI := ⟨1, 8, .func, [.nilFunc], true⟩
def ty68 : TI := ⟨1, 8, .func, [.nilFunc], true⟩
def ty70 : TI := ⟨1, 8, .func, [.nilFunc], true⟩
def ty71 : TI := ⟨1, 8, .func, [.nilFunc], true⟩
def ty72 : TI := ⟨1, 8, .func, [.nilFunc], true⟩
def ty73 : TI := ⟨1, 8, .func, [.nilFunc], true⟩
def ty74 : TI := ⟨1, 8, .func, [.nilFunc], true⟩
def ty75 : TI := ⟨1, 8, .func, [.nilFunc], true⟩
def ty76 : TI := ⟨1, 8, .func, [.nilFunc], true⟩
def ty77 : TI := ⟨1, 8, .func, [.nilFunc], true⟩
def ty78 : TI := ⟨1, 8, .func, [.nilFunc], true⟩
def ty80 : TI := ⟨1, 8, .func, [.nilFunc], true⟩
def ty82 : TI := ⟨1, 8, .func, [.nilFunc], true⟩
def ty83 : TI := ⟨1, 8, .func, [.nilFunc], true⟩
def ty85 : TI := ⟨1, 8, .func, [.nilFunc], true⟩
def ty86 : TI := ⟨1, 8, .func, [.nilFunc], true⟩
def ty87 : TI := ⟨1, 8, .func, [.nilFunc], true⟩
def ty88 : TI := ⟨1, 8, .func, [.nilFunc], true⟩
def ty89 : TI := ⟨1, 8, .func, [.nilFunc], true⟩
def ty90 : TI := ⟨1, 8, .ptr 97, [.pointer none], true⟩
def ty91 : TI := ⟨1, 8, .func, [.nilFunc], true⟩
def ty93 : TI := ⟨1, 8, .func, [.nilFunc], true⟩
def ty94 : TI := ⟨1, 8, .func, [.nilFunc], true⟩
def ty95 : TI := ⟨1, 24, .slice 121, [.slice none 0 0], true⟩
def ty96 : TI := ⟨3, 56, .strct [(95, 0), (23, 1), (2, 2)], [.slice none 0 0, .slice none 0 0, .int .i64 0], true⟩
def ty97 : TI := ⟨3, 56, .strct [(95, 0), (23, 1), (2, 2)], [.slice none 0 0, .slice none 0 0, .int .i64 0], true⟩
def ty98 : TI := ⟨1, 8, .int .u64, [.int .u64 0], true⟩
def ty99 : TI := ⟨1, 8, .func, [.nilFunc], true⟩
def ty100 : TI := ⟨1, 8, .func, [.nilFunc], true⟩
def ty101 : TI := ⟨1, 8, .func, [.nilFunc], true⟩
def ty102 : TI := ⟨1, 8, .func, [.nilFunc], true⟩
def ty103 : TI := ⟨4, 32, .arr 4 98, [.int .u64 0, .int .u64 0, .int .u64 0, .int .u64 0], true⟩
def ty104 : TI := ⟨4, 32, .strct [(103, 0)], [.int .u64 0, .int .u64 0, .int .u64 0, .int .u64 0], true⟩
def ty105 : TI := ⟨4, 32, .strct [(103, 0)], [.int .u64 0, .int .u64 0, .int .u64 0, .int .u64 0], true⟩
def ty106 : TI := ⟨1, 8, .func, [.nilFunc], true⟩
def ty107 : TI := ⟨1, 8, .func, [.nilFunc], true⟩
def ty108 : TI := ⟨1, 8, .func, [.nilFunc], true⟩
def ty110 : TI := ⟨1, 8, .func, [.nilFunc], true⟩
def ty111 : TI := ⟨1, 8, .func, [.nilFunc], true⟩
def ty112 : TI := ⟨1, 8, .func, [.nilFunc], true⟩
def ty113 : TI := ⟨1, 8, .func, [.nilFunc], true⟩
def ty114 : TI := ⟨1, 8, .func, [.nilFunc], true⟩
def ty115 : TI := ⟨1, 8, .func, [.nilFunc], true⟩
def ty116 : TI := ⟨1, 8, .func, [.nilFunc], true⟩
def ty117 : TI := ⟨1, 8, .func, [.nilFunc], true⟩
def ty118 : TI := ⟨1, 8, .func, [.nilFunc], true⟩
def ty120 : TI := ⟨1, 8, .func, [.nilFunc], true⟩
def ty121 : TI := ⟨1, 24, .slice 2, [.slice none 0 0], true⟩
def ty122 : TI := ⟨8, 64, .strct [(3, 0), (3, 1), (59, 2)], [.int .i64 0, .int .i64 0, .int .i64 0, .int .i64 0, .int .i64 0, .int .i64 0, .int .i64 0, .int .i64 0], true⟩
def ty124 : TI := ⟨1, 8, .func, [.nilFunc], true⟩
def ty125 : TI := ⟨1, 8, .func, [.nilFunc], true⟩
def ty126 : TI := ⟨1, 8, .func, [.nilFunc], true⟩
def ty127 : TI := ⟨1, 8, .func, [.nilFunc], true⟩
def ty128 : TI := ⟨1, 8, .func, [.nilFunc], true⟩
def ty129 : TI := ⟨1, 8, .func, [.nilFunc], true⟩
def ty130 : TI := ⟨1, 8, .func, [.nilFunc], true⟩
def ty131 : TI := ⟨1, 8, .func, [.nilFunc], true⟩
def ty132 : TI := ⟨1, 8, .func, [.nilFunc], true⟩
def ty133 : TI := ⟨1, 8, .func, [.nilFunc], true⟩
def ty134 : TI := ⟨1, 8, .func, [.nilFunc], true⟩
def ty135 : TI := ⟨1, 8, .func, [.nilFunc], true⟩
def ty136 : TI := ⟨1, 8, .func, [.nilFunc], true⟩
def ty137 : TI := ⟨1, 8, .func, [.nilFunc], true⟩
def ty139 : TI := ⟨1, 8, .func, [.nilFunc], true⟩
def ty140 : TI := ⟨1, 8, .func, [.nilFunc], true⟩
def ty141 : TI := ⟨3, 24, .strct [(40, 0), (30, 2)], [.int .i64 0, .int .i64 0, .int .i64 0], true⟩
def ty142 : TI := ⟨3, 24, .strct [(40, 0), (30, 2)], [.int .i64 0, .int .i64 0, .int .i64 0], true⟩
def ty143 : TI := ⟨1, 8, .func, [.nilFunc], true⟩
def ty144 : TI := ⟨1, 8, .func, [.nilFunc], true⟩
def ty145 : TI := ⟨1, 8, .func, [.nilFunc], true⟩
def ty146 : TI := ⟨2, 16, .strct [(98, 0), (98, 1)], [.int .u64 0, .int .u64 0], true⟩
def ty147 : TI := ⟨2, 16, .strct [(98, 0), (98, 1)], [.int .u64 0, .int .u64 0], true⟩
def ty148 : TI := ⟨1, 8, .func, [.nilFunc], true⟩
def ty149 : TI := ⟨1, 8, .func, [.nilFunc], true⟩
def ty150 : TI := ⟨1, 8, .func, [.nilFunc], true⟩
def ty151 : TI := ⟨1, 8, .func, [.nilFunc], true⟩
def ty153 : TI := ⟨1, 8, .func, [.nilFunc], true⟩
def ty154 : TI := ⟨1, 8, .func, [.nilFunc], true⟩
def ty155 : TI := ⟨1, 8, .func, [.nilFunc], true⟩
def ty156 : TI := ⟨1, 8, .func, [.nilFunc], true⟩
def ty157 : TI := ⟨1, 8, .func, [.nilFunc], true⟩
def ty158 : TI := ⟨1, 8, .func, [.nilFunc], true⟩
def ty159 : TI := ⟨1, 8, .func, [.nilFunc], true⟩
def ty161 : TI := ⟨1, 8, .func, [.nilFunc], true⟩
def ty162 : TI := ⟨1, 8, .func, [.nilFunc], true⟩
def ty163 : TI := ⟨1, 8, .int .u64, [.int .u64 0], true⟩
def ty164 : TI := ⟨1, 8, .func, [.nilFunc], true⟩
def ty165 : TI := ⟨1, 8, .func, [.nilFunc], true⟩
def ty166 : TI := ⟨1, 8, .func, [.nilFunc], true⟩
def ty167 : TI := ⟨1, 8, .func, [.nilFunc], true⟩
def ty168 : TI := ⟨1, 8, .func, [.nilFunc], true⟩
def ty169 : TI := ⟨1, 8, .func, [.nilFunc], true⟩
def ty170 : TI := ⟨1, 8, .func, [.nilFunc], true⟩
def ty171 : TI := ⟨1, 8, .func, [.nilFunc], true⟩
def ty172 : TI := ⟨1, 8, .func, [.nilFunc], true⟩
def ty173 : TI := ⟨1, 8, .func, [.nilFunc], true⟩
def ty174 : TI := ⟨1, 8, .func, [.nilFunc], true⟩
def ty175 : TI := ⟨1, 8, .func, [.nilFunc], true⟩
def ty176 : TI := ⟨1, 8, .func, [.nilFunc], true⟩
def ty177 : TI := ⟨1, 8, .func, [.nilFunc], true⟩
def ty178 : TI := ⟨1, 8, .func, [.nilFunc], true⟩
def ty179 : TI := ⟨1, 8, .ptr 142, [.pointer none], true⟩
def ty180 : TI := ⟨1, 8, .func, [.nilFunc], true⟩
def ty181 : TI := ⟨1, 8, .func, [.nilFunc], true⟩
def ty182 : TI := ⟨1, 8, .func, [.nilFunc], true⟩
def ty183 : TI := ⟨1, 16, .iface, [.nilIface], false⟩
def ty184 : TI := ⟨1, 16, .iface, [.nilIface], false⟩
def ty185 : TI := ⟨1, 8, .func, [.nilFunc], true⟩
def ty186 : TI := ⟨1, 8, .func, [.nilFunc], true⟩
def ty188 : TI := ⟨1, 8, .func, [.nilFunc], true⟩
def ty189 : TI := ⟨1, 8, .func, [.nilFunc], true⟩
def ty190 : TI := ⟨1, 8, .func, [.nilFunc], true⟩
def ty191 : TI := ⟨1, 8, .func, [.nilFunc], true⟩
def ty192 : TI := ⟨1, 8, .func, [.nilFunc], true⟩
def ty193 : TI := ⟨1, 8, .func, [.nilFunc], true⟩
def ty194 : TI := ⟨1, 8, .func, [.nilFunc], true⟩
def ty195 : TI := ⟨1, 8, .func, [.nilFunc], true⟩
def ty196 : TI := ⟨1, 8, .func, [.nilFunc], true⟩
def ty197 : TI := ⟨1, 8, .func, [.nilFunc], true⟩
def ty198 : TI := ⟨1, 8, .func, [.nilFunc], true⟩
def ty199 : TI := ⟨1, 24, .slice 30, [.slice none 0 0], true⟩
def ty200 : TI := ⟨1, 8, .func, [.nilFunc], true⟩
def ty201 : TI := ⟨1, 4, .int .u32, [.int .u32 0], true⟩
def ty203 : TI := ⟨1, 8, .func, [.nilFunc], true⟩
def ty204 : TI := ⟨1, 8, .func, [.nilFunc], true⟩
def ty205 : TI := ⟨1, 8, .func, [.nilFunc], true⟩
def ty206 : TI := ⟨1, 8, .func, [.nilFunc], true⟩
def ty207 : TI := ⟨1, 8, .ptr 224, [.pointer none], true⟩
def ty208 : TI := ⟨1, 8, .func, [.nilFunc], true⟩
def ty209 : TI := ⟨4, 40, .strct [(17, 0), (17, 1), (17, 2), (9, 3)], [.pointer none, .pointer none, .pointer none, .string ByteArray.empty], false⟩
def ty210 : TI := ⟨4, 40, .strct [(17, 0), (17, 1), (17, 2), (9, 3)], [.pointer none, .pointer none, .pointer none, .string ByteArray.empty], false⟩
def ty211 : TI := ⟨0, 0, .arr 0 16, [], true⟩
def ty212 : TI := ⟨0, 0, .strct [(211, 0)], [], false⟩
def ty213 : TI := ⟨0, 0, .strct [(211, 0)], [], false⟩
def ty214 : TI := ⟨1, 8, .func, [.nilFunc], true⟩
def ty215 : TI := ⟨1, 1, .int .u8, [.int .u8 0], true⟩
def ty216 : TI := ⟨1, 1, .int .u8, [.int .u8 0], true⟩
def ty217 : TI := ⟨1, 8, .func, [.nilFunc], true⟩
def ty218 : TI := ⟨1, 8, .ptr 5, [.pointer none], true⟩
def ty219 : TI := ⟨1, 4, .int .i32, [.int .i32 0], true⟩
def ty220 : TI := ⟨1, 4, .int .i32, [.int .i32 0], true⟩
def ty221 : TI := ⟨11, 48, .strct [(12, 0), (12, 1), (201, 2), (215, 3), (5, 4), (5, 5), (216, 6), (217, 7), (218, 8), (219, 9), (220, 10)], [.int .u64 0, .int .u64 0, .int .u32 0, .int .u8 0, .int .u8 0, .int .u8 0, .int .u8 0, .nilFunc, .pointer none, .int .i32 0, .int .i32 0], false⟩
def ty222 : TI := ⟨11, 48, .strct [(12, 0), (12, 1), (201, 2), (215, 3), (5, 4), (5, 5), (216, 6), (217, 7), (218, 8), (219, 9), (220, 10)], [.int .u64 0, .int .u64 0, .int .u32 0, .int .u8 0, .int .u8 0, .int .u8 0, .int .u8 0, .nilFunc, .pointer none, .int .i32 0, .int .i32 0], false⟩
def ty223 : TI := ⟨1, 16, .strct [(9, 0)], [.string ByteArray.empty], true⟩
def ty224 : TI := ⟨1, 16, .strct [(9, 0)], [.string ByteArray.empty], true⟩
def tyl : List (TypeId × TI) := [(1, ty1), (2, ty2), (3, ty3), (4, ty4), (5, ty5), (6, ty6), (7, ty7), (8, ty8), (9, ty9), (10, ty10), (11, ty11), (12, ty12), (13, ty13), (14, ty14), (15, ty15), (16, ty16), (17, ty17), (18, ty18), (19, ty19), (20, ty20), (21, ty21), (22, ty22), (23, ty23), (24, ty24), (25, ty25), (26, ty26), (27, ty27), (28, ty28), (29, ty29), (30, ty30), (32, ty32), (33, ty33), (34, ty34), (35, ty35), (37, ty37), (38, ty38), (39, ty39), (40, ty40), (41, ty41), (42, ty42), (44, ty44), (46, ty46), (48, ty48), (49, ty49), (50, ty50), (51, ty51), (53, ty53), (54, ty54), (55, ty55), (56, ty56), (57, ty57), (58, ty58), (59, ty59), (60, ty60), (61, ty61), (62, ty62), (63, ty63), (64, ty64), (65, ty65), (66, ty66), (68, ty68), (70, ty70), (71, ty71), (72, ty72), (73, ty73), (74, ty74), (75, ty75), (76, ty76), (77, ty77), (78, ty78), (80, ty80), (82, ty82), (83, ty83), (85, ty85), (86, ty86), (87, ty87), (88, ty88), (89, ty89), (90, ty90), (91, ty91), (93, ty93), (94, ty94), (95, ty95), (96, ty96), (97, ty97), (98, ty98), (99, ty99), (100, ty100), (101, ty101), (102, ty102), (103, ty103), (104, ty104), (105, ty105), (106, ty106), (107, ty107), (108, ty108), (110, ty110), (111, ty111), (112, ty112), (113, ty113), (114, ty114), (115, ty115), (116, ty116), (117, ty117), (118, ty118), (120, ty120), (121, ty121), (122, ty122), (124, ty124), (125, ty125), (126, ty126), (127, ty127), (128, ty128), (129, ty129), (130, ty130), (131, ty131), (132, ty132), (133, ty133), (134, ty134), (135, ty135), (136, ty136), (137, ty137), (139, ty139), (140, ty140), (141, ty141), (142, ty142), (143, ty143), (144, ty144), (145, ty145), (146, ty146), (147, ty147), (148, ty148), (149, ty149), (150, ty150), (151, ty151), (153, ty153), (154, ty154), (155, ty155), (156, ty156), (157, ty157), (158, ty158), (159, ty159), (161, ty161), (162, ty162), (163, ty163), (164, ty164), (165, ty165), (166, ty166), (167, ty167), (168, ty168), (169, ty169), (170, ty170), (171, ty171), (172, ty172), (173, ty173), (174, ty174), (175, ty175), (176, ty176), (177, ty177), (178, ty178), (179, ty179), (180, ty180), (181, ty181), (182, ty182), (183, ty183), (184, ty184), (185, ty185), (186, ty186), (188, ty188), (189, ty189), (190, ty190), (191, ty191), (192, ty192), (193, ty193), (194, ty194), (195, ty195), (196, ty196), (197, ty197), (198, ty198), (199, ty199), (200, ty200), (201, ty201), (203, ty203), (204, ty204), (205, ty205), (206, ty206), (207, ty207), (208, ty208), (209, ty209), (210, ty210), (211, ty211), (212, ty212), (213, ty213), (214, ty214), (215, ty215), (216, ty216), (217, ty217), (218, ty218), (219, ty219), (220, ty220), (221, ty221), (222, ty222), (223, ty223), (224, ty224)]
noncomputable def tn0 : TT := fun t => sel (Nat.beq t 1) (fun _ => some ty1) (fun _ => none)
noncomputable def tn1 : TT := fun t => sel (Nat.beq t 2) (fun _ => some ty2) (fun _ => none)
noncomputable def tn2 : TT := fun t => sel (Nat.beq t 3) (fun _ => some ty3) (fun _ => none)
noncomputable def tn3 : TT := fun t => sel (Nat.blt t 3) (fun _ => tn1 t) (fun _ => tn2 t)
noncomputable def tn4 : TT := fun t => sel (Nat.blt t 2) (fun _ => tn0 t) (fun _ => tn3 t)
noncomputable def tn5 : TT := fun t => sel (Nat.beq t 4) (fun _ => some ty4) (fun _ => none)
noncomputable def tn6 : TT := fun t => sel (Nat.beq t 5) (fun _ => some ty5) (fun _ => none)
noncomputable def tn7 : TT := fun t => sel (Nat.beq t 6) (fun _ => some ty6) (fun _ => none)
noncomputable def tn8 : TT := fun t => sel (Nat.blt t 6) (fun _ => tn6 t) (fun _ => tn7 t)
noncomputable def tn9 : TT := fun t => sel (Nat.blt t 5) (fun _ => tn5 t) (fun _ => tn8 t)
noncomputable def tn10 : TT := fun t => sel (Nat.blt t 4) (fun _ => tn4 t) (fun _ => tn9 t)
noncomputable def tn11 : TT := fun t => sel (Nat.beq t 7) (fun _ => some ty7) (fun _ => none)
noncomputable def tn12 : TT := fun t => sel (Nat.beq t 8) (fun _ => some ty8) (fun _ => none)
noncomputable def tn13 : TT := fun t => sel (Nat.beq t 9) (fun _ => some ty9) (fun _ => none)
noncomputable def tn14 : TT := fun t => sel (Nat.blt t 9) (fun _ => tn12 t) (fun _ => tn13 t)
noncomputable def tn15 : TT := fun t => sel (Nat.blt t 8) (fun _ => tn11 t) (fun _ => tn14 t)
noncomputable def tn16 : TT := fun t => sel (Nat.beq t 10) (fun _ => some ty10) (fun _ => none)
noncomputable def tn17 : TT := fun t => sel (Nat.beq t 11) (fun _ => some ty11) (fun _ => none)
noncomputable def tn18 : TT := fun t => sel (Nat.beq t 12) (fun _ => some ty12) (fun _ => none)
noncomputable def tn19 : TT := fun t => sel (Nat.blt t 12) (fun _ => tn17 t) (fun _ => tn18 t)
noncomputable def tn20 : TT := fun t => sel (Nat.blt t 11) (fun _ => tn16 t) (fun _ => tn19 t)
noncomputable def tn21 : TT := fun t => sel (Nat.blt t 10) (fun _ => tn15 t) (fun _ => tn20 t)
noncomputable def tn22 : TT := fun t => sel (Nat.blt t 7) (fun _ => tn10 t) (fun _ => tn21 t)
noncomputable def tn23 : TT := fun t => sel (Nat.beq t 13) (fun _ => some ty13) (fun _ => none)
noncomputable def tn24 : TT := fun t => sel (Nat.beq t 14) (fun _ => some ty14) (fun _ => none)
noncomputable def tn25 : TT := fun t => sel (Nat.beq t 15) (fun _ => some ty15) (fun _ => none)
noncomputable def tn26 : TT := fun t => sel (Nat.blt t 15) (fun _ => tn24 t) (fun _ => tn25 t)
noncomputable def tn27 : TT := fun t => sel (Nat.blt t 14) (fun _ => tn23 t) (fun _ => tn26 t)
noncomputable def tn28 : TT := fun t => sel (Nat.beq t 16) (fun _ => some ty16) (fun _ => none)
noncomputable def tn29 : TT := fun t => sel (Nat.beq t 17) (fun _ => some ty17) (fun _ => none)
noncomputable def tn30 : TT := fun t => sel (Nat.beq t 18) (fun _ => some ty18) (fun _ => none)
noncomputable def tn31 : TT := fun t => sel (Nat.blt t 18) (fun _ => tn29 t) (fun _ => tn30 t)
noncomputable def tn32 : TT := fun t => sel (Nat.blt t 17) (fun _ => tn28 t) (fun _ => tn31 t)
noncomputable def tn33 : TT := fun t => sel (Nat.blt t 16) (fun _ => tn27 t) (fun _ => tn32 t)
noncomputable def tn34 : TT := fun t => sel (Nat.beq t 19) (fun _ => some ty19) (fun _ => none)
noncomputable def tn35 : TT := fun t => sel (Nat.beq t 20) (fun _ => some ty20) (fun _ => none)
noncomputable def tn36 : TT := fun t => sel (Nat.beq t 21) (fun _ => some ty21) (fun _ => none)
noncomputable def tn37 : TT := fun t => sel (Nat.blt t 21) (fun _ => tn35 t) (fun _ => tn36 t)
noncomputable def tn38 : TT := fun t => sel (Nat.blt t 20) (fun _ => tn34 t) (fun _ => tn37 t)
noncomputable def tn39 : TT := fun t => sel (Nat.beq t 22) (fun _ => some ty22) (fun _ => none)
noncomputable def tn40 : TT := fun t => sel (Nat.beq t 23) (fun _ => some ty23) (fun _ => none)
noncomputable def tn41 : TT := fun t => sel (Nat.blt t 23) (fun _ => tn39 t) (fun _ => tn40 t)
noncomputable def tn42 : TT := fun t => sel (Nat.beq t 24) (fun _ => some ty24) (fun _ => none)
noncomputable def tn43 : TT := fun t => sel (Nat.beq t 25) (fun _ => some ty25) (fun _ => none)
noncomputable def tn44 : TT := fun t => sel (Nat.blt t 25) (fun _ => tn42 t) (fun _ => tn43 t)
noncomputable def tn45 : TT := fun t => sel (Nat.blt t 24) (fun _ => tn41 t) (fun _ => tn44 t)
noncomputable def tn46 : TT := fun t => sel (Nat.blt t 22) (fun _ => tn38 t) (fun _ => tn45 t)
noncomputable def tn47 : TT := fun t => sel (Nat.blt t 19) (fun _ => tn33 t) (fun _ => tn46 t)
noncomputable def tn48 : TT := fun t => sel (Nat.blt t 13) (fun _ => tn22 t) (fun _ => tn47 t)
noncomputable def tn49 : TT := fun t => sel (Nat.beq t 26) (fun _ => some ty26) (fun _ => none)
noncomputable def tn50 : TT := fun t => sel (Nat.beq t 27) (fun _ => some ty27) (fun _ => none)
noncomputable def tn51 : TT := fun t => sel (Nat.beq t 28) (fun _ => some ty28) (fun _ => none)
noncomputable def tn52 : TT := fun t => sel (Nat.blt t 28) (fun _ => tn50 t) (fun _ => tn51 t)
noncomputable def tn53 : TT := fun t => sel (Nat.blt t 27) (fun _ => tn49 t) (fun _ => tn52 t)
noncomputable def tn54 : TT := fun t => sel (Nat.beq t 29) (fun _ => some ty29) (fun _ => none)
noncomputable def tn55 : TT := fun t => sel (Nat.beq t 30) (fun _ => some ty30) (fun _ => none)
noncomputable def tn56 : TT := fun t => sel (Nat.beq t 32) (fun _ => some ty32) (fun _ => none)
noncomputable def tn57 : TT := fun t => sel (Nat.blt t 32) (fun _ => tn55 t) (fun _ => tn56 t)
noncomputable def tn58 : TT := fun t => sel (Nat.blt t 30) (fun _ => tn54 t) (fun _ => tn57 t)
noncomputable def tn59 : TT := fun t => sel (Nat.blt t 29) (fun _ => tn53 t) (fun _ => tn58 t)
noncomputable def tn60 : TT := fun t => sel (Nat.beq t 33) (fun _ => some ty33) (fun _ => none)
noncomputable def tn61 : TT := fun t => sel (Nat.beq t 34) (fun _ => some ty34) (fun _ => none)
noncomputable def tn62 : TT := fun t => sel (Nat.beq t 35) (fun _ => some ty35) (fun _ => none)
noncomputable def tn63 : TT := fun t => sel (Nat.blt t 35) (fun _ => tn61 t) (fun _ => tn62 t)
noncomputable def tn64 : TT := fun t => sel (Nat.blt t 34) (fun _ => tn60 t) (fun _ => tn63 t)
noncomputable def tn65 : TT := fun t => sel (Nat.beq t 37) (fun _ => some ty37) (fun _ => none)
noncomputable def tn66 : TT := fun t => sel (Nat.beq t 38) (fun _ => some ty38) (fun _ => none)
noncomputable def tn67 : TT := fun t => sel (Nat.blt t 38) (fun _ => tn65 t) (fun _ => tn66 t)
noncomputable def tn68 : TT := fun t => sel (Nat.beq t 39) (fun _ => some ty39) (fun _ => none)
noncomputable def tn69 : TT := fun t => sel (Nat.beq t 40) (fun _ => some ty40) (fun _ => none)
noncomputable def tn70 : TT := fun t => sel (Nat.blt t 40) (fun _ => tn68 t) (fun _ => tn69 t)
noncomputable def tn71 : TT := fun t => sel (Nat.blt t 39) (fun _ => tn67 t) (fun _ => tn70 t)
noncomputable def tn72 : TT := fun t => sel (Nat.blt t 37) (fun _ => tn64 t) (fun _ => tn71 t)
noncomputable def tn73 : TT := fun t => sel (Nat.blt t 33) (fun _ => tn59 t) (fun _ => tn72 t)
noncomputable def tn74 : TT := fun t => sel (Nat.beq t 41) (fun _ => some ty41) (fun _ => none)
noncomputable def tn75 : TT := fun t => sel (Nat.beq t 42) (fun _ => some ty42) (fun _ => none)
noncomputable def tn76 : TT := fun t => sel (Nat.beq t 44) (fun _ => some ty44) (fun _ => none)
noncomputable def tn77 : TT := fun t => sel (Nat.blt t 44) (fun _ => tn75 t) (fun _ => tn76 t)
noncomputable def tn78 : TT := fun t => sel (Nat.blt t 42) (fun _ => tn74 t) (fun _ => tn77 t)
noncomputable def tn79 : TT := fun t => sel (Nat.beq t 46) (fun _ => some ty46) (fun _ => none)
noncomputable def tn80 : TT := fun t => sel (Nat.beq t 48) (fun _ => some ty48) (fun _ => none)
noncomputable def tn81 : TT := fun t => sel (Nat.beq t 49) (fun _ => some ty49) (fun _ => none)
noncomputable def tn82 : TT := fun t => sel (Nat.blt t 49) (fun _ => tn80 t) (fun _ => tn81 t)
noncomputable def tn83 : TT := fun t => sel (Nat.blt t 48) (fun _ => tn79 t) (fun _ => tn82 t)
noncomputable def tn84 : TT := fun t => sel (Nat.blt t 46) (fun _ => tn78 t) (fun _ => tn83 t)
noncomputable def tn85 : TT := fun t => sel (Nat.beq t 50) (fun _ => some ty50) (fun _ => none)
noncomputable def tn86 : TT := fun t => sel (Nat.beq t 51) (fun _ => some ty51) (fun _ => none)
noncomputable def tn87 : TT := fun t => sel (Nat.beq t 53) (fun _ => some ty53) (fun _ => none)
noncomputable def tn88 : TT := fun t => sel (Nat.blt t 53) (fun _ => tn86 t) (fun _ => tn87 t)
noncomputable def tn89 : TT := fun t => sel (Nat.blt t 51) (fun _ => tn85 t) (fun _ => tn88 t)
noncomputable def tn90 : TT := fun t => sel (Nat.beq t 54) (fun _ => some ty54) (fun _ => none)
noncomputable def tn91 : TT := fun t => sel (Nat.beq t 55) (fun _ => some ty55) (fun _ => none)
noncomputable def tn92 : TT := fun t => sel (Nat.blt t 55) (fun _ => tn90 t) (fun _ => tn91 t)
noncomputable def tn93 : TT := fun t => sel (Nat.beq t 56) (fun _ => some ty56) (fun _ => none)
noncomputable def tn94 : TT := fun t => sel (Nat.beq t 57) (fun _ => some ty57) (fun _ => none)
noncomputable def tn95 : TT := fun t => sel (Nat.blt t 57) (fun _ => tn93 t) (fun _ => tn94 t)
noncomputable def tn96 : TT := fun t => sel (Nat.blt t 56) (fun _ => tn92 t) (fun _ => tn95 t)
noncomputable def tn97 : TT := fun t => sel (Nat.blt t 54) (fun _ => tn89 t) (fun _ => tn96 t)
noncomputable def tn98 : TT := fun t => sel (Nat.blt t 50) (fun _ => tn84 t) (fun _ => tn97 t)
noncomputable def tn99 : TT := fun t => sel (Nat.blt t 41) (fun _ => tn73 t) (fun _ => tn98 t)
noncomputable def tn100 : TT := fun t => sel (Nat.blt t 26) (fun _ => tn48 t) (fun _ => tn99 t)
noncomputable def tn101 : TT := fun t => sel (Nat.beq t 58) (fun _ => some ty58) (fun _ => none)
noncomputable def tn102 : TT := fun t => sel (Nat.beq t 59) (fun _ => some ty59) (fun _ => none)
noncomputable def tn103 : TT := fun t => sel (Nat.beq t 60) (fun _ => some ty60) (fun _ => none)
noncomputable def tn104 : TT := fun t => sel (Nat.blt t 60) (fun _ => tn102 t) (fun _ => tn103 t)
noncomputable def tn105 : TT := fun t => sel (Nat.blt t 59) (fun _ => tn101 t) (fun _ => tn104 t)
noncomputable def tn106 : TT := fun t => sel (Nat.beq t 61) (fun _ => some ty61) (fun _ => none)
noncomputable def tn107 : TT := fun t => sel (Nat.beq t 62) (fun _ => some ty62) (fun _ => none)
noncomputable def tn108 : TT := fun t => sel (Nat.beq t 63) (fun _ => some ty63) (fun _ => none)
noncomputable def tn109 : TT := fun t => sel (Nat.blt t 63) (fun _ => tn107 t) (fun _ => tn108 t)
noncomputable def tn110 : TT := fun t => sel (Nat.blt t 62) (fun _ => tn106 t) (fun _ => tn109 t)
noncomputable def tn111 : TT := fun t => sel (Nat.blt t 61) (fun _ => tn105 t) (fun _ => tn110 t)
noncomputable def tn112 : TT := fun t => sel (Nat.beq t 64) (fun _ => some ty64) (fun _ => none)
noncomputable def tn113 : TT := fun t => sel (Nat.beq t 65) (fun _ => some ty65) (fun _ => none)
noncomputable def tn114 : TT := fun t => sel (Nat.beq t 66) (fun _ => some ty66) (fun _ => none)
noncomputable def tn115 : TT := fun t => sel (Nat.blt t 66) (fun _ => tn113 t) (fun _ => tn114 t)
noncomputable def tn116 : TT := fun t => sel (Nat.blt t 65) (fun _ => tn112 t) (fun _ => tn115 t)
noncomputable def tn117 : TT := fun t => sel (Nat.beq t 68) (fun _ => some ty68) (fun _ => none)
noncomputable def tn118 : TT := fun t => sel (Nat.beq t 70) (fun _ => some ty70) (fun _ => none)
noncomputable def tn119 : TT := fun t => sel (Nat.beq t 71) (fun _ => some ty71) (fun _ => none)
noncomputable def tn120 : TT := fun t => sel (Nat.blt t 71) (fun _ => tn118 t) (fun _ => tn119 t)
noncomputable def tn121 : TT := fun t => sel (Nat.blt t 70) (fun _ => tn117 t) (fun _ => tn120 t)
noncomputable def tn122 : TT := fun t => sel (Nat.blt t 68) (fun _ => tn116 t) (fun _ => tn121 t)
noncomputable def tn123 : TT := fun t => sel (Nat.blt t 64) (fun _ => tn111 t) (fun _ => tn122 t)
noncomputable def tn124 : TT := fun t => sel (Nat.beq t 72) (fun _ => some ty72) (fun _ => none)
noncomputable def tn125 : TT := fun t => sel (Nat.beq t 73) (fun _ => some ty73) (fun _ => none)
noncomputable def tn126 : TT := fun t => sel (Nat.beq t 74) (fun _ => some ty74) (fun _ => none)
noncomputable def tn127 : TT := fun t => sel (Nat.blt t 74) (fun _ => tn125 t) (fun _ => tn126 t)
noncomputable def tn128 : TT := fun t => sel (Nat.blt t 73) (fun _ => tn124 t) (fun _ => tn127 t)
noncomputable def tn129 : TT := fun t => sel (Nat.beq t 75) (fun _ => some ty75) (fun _ => none)
noncomputable def tn130 : TT := fun t => sel (Nat.beq t 76) (fun _ => some ty76) (fun _ => none)
noncomputable def tn131 : TT := fun t => sel (Nat.beq t 77) (fun _ => some ty77) (fun _ => none)
noncomputable def tn132 : TT := fun t => sel (Nat.blt t 77) (fun _ => tn130 t) (fun _ => tn131 t)
noncomputable def tn133 : TT := fun t => sel (Nat.blt t 76) (fun _ => tn129 t) (fun _ => tn132 t)
noncomputable def tn134 : TT := fun t => sel (Nat.blt t 75) (fun _ => tn128 t) (fun _ => tn133 t)
noncomputable def tn135 : TT := fun t => sel (Nat.beq t 78) (fun _ => some ty78) (fun _ => none)
noncomputable def tn136 : TT := fun t => sel (Nat.beq t 80) (fun _ => some ty80) (fun _ => none)
noncomputable def tn137 : TT := fun t => sel (Nat.beq t 82) (fun _ => some ty82) (fun _ => none)
noncomputable def tn138 : TT := fun t => sel (Nat.blt t 82) (fun _ => tn136 t) (fun _ => tn137 t)
noncomputable def tn139 : TT := fun t => sel (Nat.blt t 80) (fun _ => tn135 t) (fun _ => tn138 t)
noncomputable def tn140 : TT := fun t => sel (Nat.beq t 83) (fun _ => some ty83) (fun _ => none)
noncomputable def tn141 : TT := fun t => sel (Nat.beq t 85) (fun _ => some ty85) (fun _ => none)
noncomputable def tn142 : TT := fun t => sel (Nat.blt t 85) (fun _ => tn140 t) (fun _ => tn141 t)
noncomputable def tn143 : TT := fun t => sel (Nat.beq t 86) (fun _ => some ty86) (fun _ => none)
noncomputable def tn144 : TT := fun t => sel (Nat.beq t 87) (fun _ => some ty87) (fun _ => none)
noncomputable def tn145 : TT := fun t => sel (Nat.blt t 87) (fun _ => tn143 t) (fun _ => tn144 t)
noncomputable def tn146 : TT := fun t => sel (Nat.blt t 86) (fun _ => tn142 t) (fun _ => tn145 t)
noncomputable def tn147 : TT := fun t => sel (Nat.blt t 83) (fun _ => tn139 t) (fun _ => tn146 t)
noncomputable def tn148 : TT := fun t => sel (Nat.blt t 78) (fun _ => tn134 t) (fun _ => tn147 t)
noncomputable def tn149 : TT := fun t => sel (Nat.blt t 72) (fun _ => tn123 t) (fun _ => tn148 t)
noncomputable def tn150 : TT := fun t => sel (Nat.beq t 88) (fun _ => some ty88) (fun _ => none)
noncomputable def tn151 : TT := fun t => sel (Nat.beq t 89) (fun _ => some ty89) (fun _ => none)
noncomputable def tn152 : TT := fun t => sel (Nat.beq t 90) (fun _ => some ty90) (fun _ => none)
noncomputable def tn153 : TT := fun t => sel (Nat.blt t 90) (fun _ => tn151 t) (fun _ => tn152 t)
noncomputable def tn154 : TT := fun t => sel (Nat.blt t 89) (fun _ => tn150 t) (fun _ => tn153 t)
noncomputable def tn155 : TT := fun t => sel (Nat.beq t 91) (fun _ => some ty91) (fun _ => none)
noncomputable def tn156 : TT := fun t => sel (Nat.beq t 93) (fun _ => some ty93) (fun _ => none)
noncomputable def tn157 : TT := fun t => sel (Nat.beq t 94) (fun _ => some ty94) (fun _ => none)
noncomputable def tn158 : TT := fun t => sel (Nat.blt t 94) (fun _ => tn156 t) (fun _ => tn157 t)
noncomputable def tn159 : TT := fun t => sel (Nat.blt t 93) (fun _ => tn155 t) (fun _ => tn158 t)
noncomputable def tn160 : TT := fun t => sel (Nat.blt t 91) (fun _ => tn154 t) (fun _ => tn159 t)
noncomputable def tn161 : TT := fun t => sel (Nat.beq t 95) (fun _ => some ty95) (fun _ => none)
noncomputable def tn162 : TT := fun t => sel (Nat.beq t 96) (fun _ => some ty96) (fun _ => none)
noncomputable def tn163 : TT := fun t => sel (Nat.beq t 97) (fun _ => some ty97) (fun _ => none)
noncomputable def tn164 : TT := fun t => sel (Nat.blt t 97) (fun _ => tn162 t) (fun _ => tn163 t)
noncomputable def tn165 : TT := fun t => sel (Nat.blt t 96) (fun _ => tn161 t) (fun _ => tn164 t)
noncomputable def tn166 : TT := fun t => sel (Nat.beq t 98) (fun _ => some ty98) (fun _ => none)
noncomputable def tn167 : TT := fun t => sel (Nat.beq t 99) (fun _ => some ty99) (fun _ => none)
noncomputable def tn168 : TT := fun t => sel (Nat.blt t 99) (fun _ => tn166 t) (fun _ => tn167 t)
noncomputable def tn169 : TT := fun t => sel (Nat.beq t 100) (fun _ => some ty100) (fun _ => none)
noncomputable def tn170 : TT := fun t => sel (Nat.beq t 101) (fun _ => some ty101) (fun _ => none)
noncomputable def tn171 : TT := fun t => sel (Nat.blt t 101) (fun _ => tn169 t) (fun _ => tn170 t)
noncomputable def tn172 : TT := fun t => sel (Nat.blt t 100) (fun _ => tn168 t) (fun _ => tn171 t)
noncomputable def tn173 : TT := fun t => sel (Nat.blt t 98) (fun _ => tn165 t) (fun _ => tn172 t)
noncomputable def tn174 : TT := fun t => sel (Nat.blt t 95) (fun _ => tn160 t) (fun _ => tn173 t)
noncomputable def tn175 : TT := fun t => sel (Nat.beq t 102) (fun _ => some ty102) (fun _ => none)
noncomputable def tn176 : TT := fun t => sel (Nat.beq t 103) (fun _ => some ty103) (fun _ => none)
noncomputable def tn177 : TT := fun t => sel (Nat.beq t 104) (fun _ => some ty104) (fun _ => none)
noncomputable def tn178 : TT := fun t => sel (Nat.blt t 104) (fun _ => tn176 t) (fun _ => tn177 t)
noncomputable def tn179 : TT := fun t => sel (Nat.blt t 103) (fun _ => tn175 t) (fun _ => tn178 t)
noncomputable def tn180 : TT := fun t => sel (Nat.beq t 105) (fun _ => some ty105) (fun _ => none)
noncomputable def tn181 : TT := fun t => sel (Nat.beq t 106) (fun _ => some ty106) (fun _ => none)
noncomputable def tn182 : TT := fun t => sel (Nat.beq t 107) (fun _ => some ty107) (fun _ => none)
noncomputable def tn183 : TT := fun t => sel (Nat.blt t 107) (fun _ => tn181 t) (fun _ => tn182 t)
noncomputable def tn184 : TT := fun t => sel (Nat.blt t 106) (fun _ => tn180 t) (fun _ => tn183 t)
noncomputable def tn185 : TT := fun t => sel (Nat.blt t 105) (fun _ => tn179 t) (fun _ => tn184 t)
noncomputable def tn186 : TT := fun t => sel (Nat.beq t 108) (fun _ => some ty108) (fun _ => none)
noncomputable def tn187 : TT := fun t => sel (Nat.beq t 110) (fun _ => some ty110) (fun _ => none)
noncomputable def tn188 : TT := fun t => sel (Nat.beq t 111) (fun _ => some ty111) (fun _ => none)
noncomputable def tn189 : TT := fun t => sel (Nat.blt t 111) (fun _ => tn187 t) (fun _ => tn188 t)
noncomputable def tn190 : TT := fun t => sel (Nat.blt t 110) (fun _ => tn186 t) (fun _ => tn189 t)
noncomputable def tn191 : TT := fun t => sel (Nat.beq t 112) (fun _ => some ty112) (fun _ => none)
noncomputable def tn192 : TT := fun t => sel (Nat.beq t 113) (fun _ => some ty113) (fun _ => none)
noncomputable def tn193 : TT := fun t => sel (Nat.blt t 113) (fun _ => tn191 t) (fun _ => tn192 t)
noncomputable def tn194 : TT := fun t => sel (Nat.beq t 114) (fun _ => some ty114) (fun _ => none)
noncomputable def tn195 : TT := fun t => sel (Nat.beq t 115) (fun _ => some ty115) (fun _ => none)
noncomputable def tn196 : TT := fun t => sel (Nat.blt t 115) (fun _ => tn194 t) (fun _ => tn195 t)
noncomputable def tn197 : TT := fun t => sel (Nat.blt t 114) (fun _ => tn193 t) (fun _ => tn196 t)
noncomputable def tn198 : TT := fun t => sel (Nat.blt t 112) (fun _ => tn190 t) (fun _ => tn197 t)
noncomputable def tn199 : TT := fun t => sel (Nat.blt t 108) (fun _ => tn185 t) (fun _ => tn198 t)
noncomputable def tn200 : TT := fun t => sel (Nat.blt t 102) (fun _ => tn174 t) (fun _ => tn199 t)
noncomputable def tn201 : TT := fun t => sel (Nat.blt t 88) (fun _ => tn149 t) (fun _ => tn200 t)
noncomputable def tn202 : TT := fun t => sel (Nat.blt t 58) (fun _ => tn100 t) (fun _ => tn201 t)
noncomputable def tn203 : TT := fun t => sel (Nat.beq t 116) (fun _ => some ty116) (fun _ => none)
noncomputable def tn204 : TT := fun t => sel (Nat.beq t 117) (fun _ => some ty117) (fun _ => none)
noncomputable def tn205 : TT := fun t => sel (Nat.beq t 118) (fun _ => some ty118) (fun _ => none)
noncomputable def tn206 : TT := fun t => sel (Nat.blt t 118) (fun _ => tn204 t) (fun _ => tn205 t)
noncomputable def tn207 : TT := fun t => sel (Nat.blt t 117) (fun _ => tn203 t) (fun _ => tn206 t)
noncomputable def tn208 : TT := fun t => sel (Nat.beq t 120) (fun _ => some ty120) (fun _ => none)
noncomputable def tn209 : TT := fun t => sel (Nat.beq t 121) (fun _ => some ty121) (fun _ => none)
noncomputable def tn210 : TT := fun t => sel (Nat.beq t 122) (fun _ => some ty122) (fun _ => none)
noncomputable def tn211 : TT := fun t => sel (Nat.blt t 122) (fun _ => tn209 t) (fun _ => tn210 t)
noncomputable def tn212 : TT := fun t => sel (Nat.blt t 121) (fun _ => tn208 t) (fun _ => tn211 t)
noncomputable def tn213 : TT := fun t => sel (Nat.blt t 120) (fun _ => tn207 t) (fun _ => tn212 t)
noncomputable def tn214 : TT := fun t => sel (Nat.beq t 124) (fun _ => some ty124) (fun _ => none)
noncomputable def tn215 : TT := fun t => sel (Nat.beq t 125) (fun _ => some ty125) (fun _ => none)
noncomputable def tn216 : TT := fun t => sel (Nat.beq t 126) (fun _ => some ty126) (fun _ => none)
noncomputable def tn217 : TT := fun t => sel (Nat.blt t 126) (fun _ => tn215 t) (fun _ => tn216 t)
noncomputable def tn218 : TT := fun t => sel (Nat.blt t 125) (fun _ => tn214 t) (fun _ => tn217 t)
noncomputable def tn219 : TT := fun t => sel (Nat.beq t 127) (fun _ => some ty127) (fun _ => none)
noncomputable def tn220 : TT := fun t => sel (Nat.beq t 128) (fun _ => some ty128) (fun _ => none)
noncomputable def tn221 : TT := fun t => sel (Nat.beq t 129) (fun _ => some ty129) (fun _ => none)
noncomputable def tn222 : TT := fun t => sel (Nat.blt t 129) (fun _ => tn220 t) (fun _ => tn221 t)
noncomputable def tn223 : TT := fun t => sel (Nat.blt t 128) (fun _ => tn219 t) (fun _ => tn222 t)
noncomputable def tn224 : TT := fun t => sel (Nat.blt t 127) (fun _ => tn218 t) (fun _ => tn223 t)
noncomputable def tn225 : TT := fun t => sel (Nat.blt t 124) (fun _ => tn213 t) (fun _ => tn224 t)
noncomputable def tn226 : TT := fun t => sel (Nat.beq t 130) (fun _ => some ty130) (fun _ => none)
noncomputable def tn227 : TT := fun t => sel (Nat.beq t 131) (fun _ => some ty131) (fun _ => none)
noncomputable def tn228 : TT := fun t => sel (Nat.beq t 132) (fun _ => some ty132) (fun _ => none)
noncomputable def tn229 : TT := fun t => sel (Nat.blt t 132) (fun _ => tn227 t) (fun _ => tn228 t)
noncomputable def tn230 : TT := fun t => sel (Nat.blt t 131) (fun _ => tn226 t) (fun _ => tn229 t)
noncomputable def tn231 : TT := fun t => sel (Nat.beq t 133) (fun _ => some ty133) (fun _ => none)
noncomputable def tn232 : TT := fun t => sel (Nat.beq t 134) (fun _ => some ty134) (fun _ => none)
noncomputable def tn233 : TT := fun t => sel (Nat.beq t 135) (fun _ => some ty135) (fun _ => none)
noncomputable def tn234 : TT := fun t => sel (Nat.blt t 135) (fun _ => tn232 t) (fun _ => tn233 t)
noncomputable def tn235 : TT := fun t => sel (Nat.blt t 134) (fun _ => tn231 t) (fun _ => tn234 t)
noncomputable def tn236 : TT := fun t => sel (Nat.blt t 133) (fun _ => tn230 t) (fun _ => tn235 t)
noncomputable def tn237 : TT := fun t => sel (Nat.beq t 136) (fun _ => some ty136) (fun _ => none)
noncomputable def tn238 : TT := fun t => sel (Nat.beq t 137) (fun _ => some ty137) (fun _ => none)
noncomputable def tn239 : TT := fun t => sel (Nat.beq t 139) (fun _ => some ty139) (fun _ => none)
noncomputable def tn240 : TT := fun t => sel (Nat.blt t 139) (fun _ => tn238 t) (fun _ => tn239 t)
noncomputable def tn241 : TT := fun t => sel (Nat.blt t 137) (fun _ => tn237 t) (fun _ => tn240 t)
noncomputable def tn242 : TT := fun t => sel (Nat.beq t 140) (fun _ => some ty140) (fun _ => none)
noncomputable def tn243 : TT := fun t => sel (Nat.beq t 141) (fun _ => some ty141) (fun _ => none)
noncomputable def tn244 : TT := fun t => sel (Nat.blt t 141) (fun _ => tn242 t) (fun _ => tn243 t)
noncomputable def tn245 : TT := fun t => sel (Nat.beq t 142) (fun _ => some ty142) (fun _ => none)
noncomputable def tn246 : TT := fun t => sel (Nat.beq t 143) (fun _ => some ty143) (fun _ => none)
noncomputable def tn247 : TT := fun t => sel (Nat.blt t 143) (fun _ => tn245 t) (fun _ => tn246 t)
noncomputable def tn248 : TT := fun t => sel (Nat.blt t 142) (fun _ => tn244 t) (fun _ => tn247 t)
noncomputable def tn249 : TT := fun t => sel (Nat.blt t 140) (fun _ => tn241 t) (fun _ => tn248 t)
noncomputable def tn250 : TT := fun t => sel (Nat.blt t 136) (fun _ => tn236 t) (fun _ => tn249 t)
noncomputable def tn251 : TT := fun t => sel (Nat.blt t 130) (fun _ => tn225 t) (fun _ => tn250 t)
noncomputable def tn252 : TT := fun t => sel (Nat.beq t 144) (fun _ => some ty144) (fun _ => none)
noncomputable def tn253 : TT := fun t => sel (Nat.beq t 145) (fun _ => some ty145) (fun _ => none)
noncomputable def tn254 : TT := fun t => sel (Nat.beq t 146) (fun _ => some ty146) (fun _ => none)
noncomputable def tn255 : TT := fun t => sel (Nat.blt t 146) (fun _ => tn253 t) (fun _ => tn254 t)
noncomputable def tn256 : TT := fun t => sel (Nat.blt t 145) (fun _ => tn252 t) (fun _ => tn255 t)
noncomputable def tn257 : TT := fun t => sel (Nat.beq t 147) (fun _ => some ty147) (fun _ => none)
noncomputable def tn258 : TT := fun t => sel (Nat.beq t 148) (fun _ => some ty148) (fun _ => none)
noncomputable def tn259 : TT := fun t => sel (Nat.beq t 149) (fun _ => some ty149) (fun _ => none)
noncomputable def tn260 : TT := fun t => sel (Nat.blt t 149) (fun _ => tn258 t) (fun _ => tn259 t)
noncomputable def tn261 : TT := fun t => sel (Nat.blt t 148) (fun _ => tn257 t) (fun _ => tn260 t)
noncomputable def tn262 : TT := fun t => sel (Nat.blt t 147) (fun _ => tn256 t) (fun _ => tn261 t)
noncomputable def tn263 : TT := fun t => sel (Nat.beq t 150) (fun _ => some ty150) (fun _ => none)
noncomputable def tn264 : TT := fun t => sel (Nat.beq t 151) (fun _ => some ty151) (fun _ => none)
noncomputable def tn265 : TT := fun t => sel (Nat.beq t 153) (fun _ => some ty153) (fun _ => none)
noncomputable def tn266 : TT := fun t => sel (Nat.blt t 153) (fun _ => tn264 t) (fun _ => tn265 t)
noncomputable def tn267 : TT := fun t => sel (Nat.blt t 151) (fun _ => tn263 t) (fun _ => tn266 t)
noncomputable def tn268 : TT := fun t => sel (Nat.beq t 154) (fun _ => some ty154) (fun _ => none)
noncomputable def tn269 : TT := fun t => sel (Nat.beq t 155) (fun _ => some ty155) (fun _ => none)
noncomputable def tn270 : TT := fun t => sel (Nat.blt t 155) (fun _ => tn268 t) (fun _ => tn269 t)
noncomputable def tn271 : TT := fun t => sel (Nat.beq t 156) (fun _ => some ty156) (fun _ => none)
noncomputable def tn272 : TT := fun t => sel (Nat.beq t 157) (fun _ => some ty157) (fun _ => none)
noncomputable def tn273 : TT := fun t => sel (Nat.blt t 157) (fun _ => tn271 t) (fun _ => tn272 t)
noncomputable def tn274 : TT := fun t => sel (Nat.blt t 156) (fun _ => tn270 t) (fun _ => tn273 t)
noncomputable def tn275 : TT := fun t => sel (Nat.blt t 154) (fun _ => tn267 t) (fun _ => tn274 t)
noncomputable def tn276 : TT := fun t => sel (Nat.blt t 150) (fun _ => tn262 t) (fun _ => tn275 t)
noncomputable def tn277 : TT := fun t => sel (Nat.beq t 158) (fun _ => some ty158) (fun _ => none)
noncomputable def tn278 : TT := fun t => sel (Nat.beq t 159) (fun _ => some ty159) (fun _ => none)
noncomputable def tn279 : TT := fun t => sel (Nat.beq t 161) (fun _ => some ty161) (fun _ => none)
noncomputable def tn280 : TT := fun t => sel (Nat.blt t 161) (fun _ => tn278 t) (fun _ => tn279 t)
noncomputable def tn281 : TT := fun t => sel (Nat.blt t 159) (fun _ => tn277 t) (fun _ => tn280 t)
noncomputable def tn282 : TT := fun t => sel (Nat.beq t 162) (fun _ => some ty162) (fun _ => none)
noncomputable def tn283 : TT := fun t => sel (Nat.beq t 163) (fun _ => some ty163) (fun _ => none)
noncomputable def tn284 : TT := fun t => sel (Nat.beq t 164) (fun _ => some ty164) (fun _ => none)
noncomputable def tn285 : TT := fun t => sel (Nat.blt t 164) (fun _ => tn283 t) (fun _ => tn284 t)
noncomputable def tn286 : TT := fun t => sel (Nat.blt t 163) (fun _ => tn282 t) (fun _ => tn285 t)
noncomputable def tn287 : TT := fun t => sel (Nat.blt t 162) (fun _ => tn281 t) (fun _ => tn286 t)
noncomputable def tn288 : TT := fun t => sel (Nat.beq t 165) (fun _ => some ty165) (fun _ => none)
noncomputable def tn289 : TT := fun t => sel (Nat.beq t 166) (fun _ => some ty166) (fun _ => none)
noncomputable def tn290 : TT := fun t => sel (Nat.beq t 167) (fun _ => some ty167) (fun _ => none)
noncomputable def tn291 : TT := fun t => sel (Nat.blt t 167) (fun _ => tn289 t) (fun _ => tn290 t)
noncomputable def tn292 : TT := fun t => sel (Nat.blt t 166) (fun _ => tn288 t) (fun _ => tn291 t)
noncomputable def tn293 : TT := fun t => sel (Nat.beq t 168) (fun _ => some ty168) (fun _ => none)
noncomputable def tn294 : TT := fun t => sel (Nat.beq t 169) (fun _ => some ty169) (fun _ => none)
noncomputable def tn295 : TT := fun t => sel (Nat.blt t 169) (fun _ => tn293 t) (fun _ => tn294 t)
noncomputable def tn296 : TT := fun t => sel (Nat.beq t 170) (fun _ => some ty170) (fun _ => none)
noncomputable def tn297 : TT := fun t => sel (Nat.beq t 171) (fun _ => some ty171) (fun _ => none)
noncomputable def tn298 : TT := fun t => sel (Nat.blt t 171) (fun _ => tn296 t) (fun _ => tn297 t)
noncomputable def tn299 : TT := fun t => sel (Nat.blt t 170) (fun _ => tn295 t) (fun _ => tn298 t)
noncomputable def tn300 : TT := fun t => sel (Nat.blt t 168) (fun _ => tn292 t) (fun _ => tn299 t)
noncomputable def tn301 : TT := fun t => sel (Nat.blt t 165) (fun _ => tn287 t) (fun _ => tn300 t)
noncomputable def tn302 : TT := fun t => sel (Nat.blt t 158) (fun _ => tn276 t) (fun _ => tn301 t)
noncomputable def tn303 : TT := fun t => sel (Nat.blt t 144) (fun _ => tn251 t) (fun _ => tn302 t)
noncomputable def tn304 : TT := fun t => sel (Nat.beq t 172) (fun _ => some ty172) (fun _ => none)
noncomputable def tn305 : TT := fun t => sel (Nat.beq t 173) (fun _ => some ty173) (fun _ => none)
noncomputable def tn306 : TT := fun t => sel (Nat.beq t 174) (fun _ => some ty174) (fun _ => none)
noncomputable def tn307 : TT := fun t => sel (Nat.blt t 174) (fun _ => tn305 t) (fun _ => tn306 t)
noncomputable def tn308 : TT := fun t => sel (Nat.blt t 173) (fun _ => tn304 t) (fun _ => tn307 t)
noncomputable def tn309 : TT := fun t => sel (Nat.beq t 175) (fun _ => some ty175) (fun _ => none)
noncomputable def tn310 : TT := fun t => sel (Nat.beq t 176) (fun _ => some ty176) (fun _ => none)
noncomputable def tn311 : TT := fun t => sel (Nat.beq t 177) (fun _ => some ty177) (fun _ => none)
noncomputable def tn312 : TT := fun t => sel (Nat.blt t 177) (fun _ => tn310 t) (fun _ => tn311 t)
noncomputable def tn313 : TT := fun t => sel (Nat.blt t 176) (fun _ => tn309 t) (fun _ => tn312 t)
noncomputable def tn314 : TT := fun t => sel (Nat.blt t 175) (fun _ => tn308 t) (fun _ => tn313 t)
noncomputable def tn315 : TT := fun t => sel (Nat.beq t 178) (fun _ => some ty178) (fun _ => none)
noncomputable def tn316 : TT := fun t => sel (Nat.beq t 179) (fun _ => some ty179) (fun _ => none)
noncomputable def tn317 : TT := fun t => sel (Nat.beq t 180) (fun _ => some ty180) (fun _ => none)
noncomputable def tn318 : TT := fun t => sel (Nat.blt t 180) (fun _ => tn316 t) (fun _ => tn317 t)
noncomputable def tn319 : TT := fun t => sel (Nat.blt t 179) (fun _ => tn315 t) (fun _ => tn318 t)
noncomputable def tn320 : TT := fun t => sel (Nat.beq t 181) (fun _ => some ty181) (fun _ => none)
noncomputable def tn321 : TT := fun t => sel (Nat.beq t 182) (fun _ => some ty182) (fun _ => none)
noncomputable def tn322 : TT := fun t => sel (Nat.beq t 183) (fun _ => some ty183) (fun _ => none)
noncomputable def tn323 : TT := fun t => sel (Nat.blt t 183) (fun _ => tn321 t) (fun _ => tn322 t)
noncomputable def tn324 : TT := fun t => sel (Nat.blt t 182) (fun _ => tn320 t) (fun _ => tn323 t)
noncomputable def tn325 : TT := fun t => sel (Nat.blt t 181) (fun _ => tn319 t) (fun _ => tn324 t)
noncomputable def tn326 : TT := fun t => sel (Nat.blt t 178) (fun _ => tn314 t) (fun _ => tn325 t)
noncomputable def tn327 : TT := fun t => sel (Nat.beq t 184) (fun _ => some ty184) (fun _ => none)
noncomputable def tn328 : TT := fun t => sel (Nat.beq t 185) (fun _ => some ty185) (fun _ => none)
noncomputable def tn329 : TT := fun t => sel (Nat.beq t 186) (fun _ => some ty186) (fun _ => none)
noncomputable def tn330 : TT := fun t => sel (Nat.blt t 186) (fun _ => tn328 t) (fun _ => tn329 t)
noncomputable def tn331 : TT := fun t => sel (Nat.blt t 185) (fun _ => tn327 t) (fun _ => tn330 t)
noncomputable def tn332 : TT := fun t => sel (Nat.beq t 188) (fun _ => some ty188) (fun _ => none)
noncomputable def tn333 : TT := fun t => sel (Nat.beq t 189) (fun _ => some ty189) (fun _ => none)
noncomputable def tn334 : TT := fun t => sel (Nat.beq t 190) (fun _ => some ty190) (fun _ => none)
noncomputable def tn335 : TT := fun t => sel (Nat.blt t 190) (fun _ => tn333 t) (fun _ => tn334 t)
noncomputable def tn336 : TT := fun t => sel (Nat.blt t 189) (fun _ => tn332 t) (fun _ => tn335 t)
noncomputable def tn337 : TT := fun t => sel (Nat.blt t 188) (fun _ => tn331 t) (fun _ => tn336 t)
noncomputable def tn338 : TT := fun t => sel (Nat.beq t 191) (fun _ => some ty191) (fun _ => none)
noncomputable def tn339 : TT := fun t => sel (Nat.beq t 192) (fun _ => some ty192) (fun _ => none)
noncomputable def tn340 : TT := fun t => sel (Nat.beq t 193) (fun _ => some ty193) (fun _ => none)
noncomputable def tn341 : TT := fun t => sel (Nat.blt t 193) (fun _ => tn339 t) (fun _ => tn340 t)
noncomputable def tn342 : TT := fun t => sel (Nat.blt t 192) (fun _ => tn338 t) (fun _ => tn341 t)
noncomputable def tn343 : TT := fun t => sel (Nat.beq t 194) (fun _ => some ty194) (fun _ => none)
noncomputable def tn344 : TT := fun t => sel (Nat.beq t 195) (fun _ => some ty195) (fun _ => none)
noncomputable def tn345 : TT := fun t => sel (Nat.blt t 195) (fun _ => tn343 t) (fun _ => tn344 t)
noncomputable def tn346 : TT := fun t => sel (Nat.beq t 196) (fun _ => some ty196) (fun _ => none)
noncomputable def tn347 : TT := fun t => sel (Nat.beq t 197) (fun _ => some ty197) (fun _ => none)
noncomputable def tn348 : TT := fun t => sel (Nat.blt t 197) (fun _ => tn346 t) (fun _ => tn347 t)
noncomputable def tn349 : TT := fun t => sel (Nat.blt t 196) (fun _ => tn345 t) (fun _ => tn348 t)
noncomputable def tn350 : TT := fun t => sel (Nat.blt t 194) (fun _ => tn342 t) (fun _ => tn349 t)
noncomputable def tn351 : TT := fun t => sel (Nat.blt t 191) (fun _ => tn337 t) (fun _ => tn350 t)
noncomputable def tn352 : TT := fun t => sel (Nat.blt t 184) (fun _ => tn326 t) (fun _ => tn351 t)
noncomputable def tn353 : TT := fun t => sel (Nat.beq t 198) (fun _ => some ty198) (fun _ => none)
noncomputable def tn354 : TT := fun t => sel (Nat.beq t 199) (fun _ => some ty199) (fun _ => none)
noncomputable def tn355 : TT := fun t => sel (Nat.beq t 200) (fun _ => some ty200) (fun _ => none)
noncomputable def tn356 : TT := fun t => sel (Nat.blt t 200) (fun _ => tn354 t) (fun _ => tn355 t)
noncomputable def tn357 : TT := fun t => sel (Nat.blt t 199) (fun _ => tn353 t) (fun _ => tn356 t)
noncomputable def tn358 : TT := fun t => sel (Nat.beq t 201) (fun _ => some ty201) (fun _ => none)
noncomputable def tn359 : TT := fun t => sel (Nat.beq t 203) (fun _ => some ty203) (fun _ => none)
noncomputable def tn360 : TT := fun t => sel (Nat.beq t 204) (fun _ => some ty204) (fun _ => none)
noncomputable def tn361 : TT := fun t => sel (Nat.blt t 204) (fun _ => tn359 t) (fun _ => tn360 t)
noncomputable def tn362 : TT := fun t => sel (Nat.blt t 203) (fun _ => tn358 t) (fun _ => tn361 t)
noncomputable def tn363 : TT := fun t => sel (Nat.blt t 201) (fun _ => tn357 t) (fun _ => tn362 t)
noncomputable def tn364 : TT := fun t => sel (Nat.beq t 205) (fun _ => some ty205) (fun _ => none)
noncomputable def tn365 : TT := fun t => sel (Nat.beq t 206) (fun _ => some ty206) (fun _ => none)
noncomputable def tn366 : TT := fun t => sel (Nat.beq t 207) (fun _ => some ty207) (fun _ => none)
noncomputable def tn367 : TT := fun t => sel (Nat.blt t 207) (fun _ => tn365 t) (fun _ => tn366 t)
noncomputable def tn368 : TT := fun t => sel (Nat.blt t 206) (fun _ => tn364 t) (fun _ => tn367 t)
noncomputable def tn369 : TT := fun t => sel (Nat.beq t 208) (fun _ => some ty208) (fun _ => none)
noncomputable def tn370 : TT := fun t => sel (Nat.beq t 209) (fun _ => some ty209) (fun _ => none)
noncomputable def tn371 : TT := fun t => sel (Nat.blt t 209) (fun _ => tn369 t) (fun _ => tn370 t)
noncomputable def tn372 : TT := fun t => sel (Nat.beq t 210) (fun _ => some ty210) (fun _ => none)
noncomputable def tn373 : TT := fun t => sel (Nat.beq t 211) (fun _ => some ty211) (fun _ => none)
noncomputable def tn374 : TT := fun t => sel (Nat.blt t 211) (fun _ => tn372 t) (fun _ => tn373 t)
noncomputable def tn375 : TT := fun t => sel (Nat.blt t 210) (fun _ => tn371 t) (fun _ => tn374 t)
noncomputable def tn376 : TT := fun t => sel (Nat.blt t 208) (fun _ => tn368 t) (fun _ => tn375 t)
noncomputable def tn377 : TT := fun t => sel (Nat.blt t 205) (fun _ => tn363 t) (fun _ => tn376 t)
noncomputable def tn378 : TT := fun t => sel (Nat.beq t 212) (fun _ => some ty212) (fun _ => none)
noncomputable def tn379 : TT := fun t => sel (Nat.beq t 213) (fun _ => some ty213) (fun _ => none)
noncomputable def tn380 : TT := fun t => sel (Nat.beq t 214) (fun _ => some ty214) (fun _ => none)
noncomputable def tn381 : TT := fun t => sel (Nat.blt t 214) (fun _ => tn379 t) (fun _ => tn380 t)
noncomputable def tn382 : TT := fun t => sel (Nat.blt t 213) (fun _ => tn378 t) (fun _ => tn381 t)
noncomputable def tn383 : TT := fun t => sel (Nat.beq t 215) (fun _ => some ty215) (fun _ => none)
noncomputable def tn384 : TT := fun t => sel (Nat.beq t 216) (fun _ => some ty216) (fun _ => none)
noncomputable def tn385 : TT := fun t => sel (Nat.beq t 217) (fun _ => some ty217) (fun _ => none)
noncomputable def tn386 : TT := fun t => sel (Nat.blt t 217) (fun _ => tn384 t) (fun _ => tn385 t)
noncomputable def tn387 : TT := fun t => sel (Nat.blt t 216) (fun _ => tn383 t) (fun _ => tn386 t)
noncomputable def tn388 : TT := fun t => sel (Nat.blt t 215) (fun _ => tn382 t) (fun _ => tn387 t)
noncomputable def tn389 : TT := fun t => sel (Nat.beq t 218) (fun _ => some ty218) (fun _ => none)
noncomputable def tn390 : TT := fun t => sel (Nat.beq t 219) (fun _ => some ty219) (fun _ => none)
noncomputable def tn391 : TT := fun t => sel (Nat.beq t 220) (fun _ => some ty220) (fun _ => none)
noncomputable def tn392 : TT := fun t => sel (Nat.blt t 220) (fun _ => tn390 t) (fun _ => tn391 t)
noncomputable def tn393 : TT := fun t => sel (Nat.blt t 219) (fun _ => tn389 t) (fun _ => tn392 t)
noncomputable def tn394 : TT := fun t => sel (Nat.beq t 221) (fun _ => some ty221) (fun _ => none)
noncomputable def tn395 : TT := fun t => sel (Nat.beq t 222) (fun _ => some ty222) (fun _ => none)
noncomputable def tn396 : TT := fun t => sel (Nat.blt t 222) (fun _ => tn394 t) (fun _ => tn395 t)
noncomputable def tn397 : TT := fun t => sel (Nat.beq t 223) (fun _ => some ty223) (fun _ => none)
noncomputable def tn398 : TT := fun t => sel (Nat.beq t 224) (fun _ => some ty224) (fun _ => none)
noncomputable def tn399 : TT := fun t => sel (Nat.blt t 224) (fun _ => tn397 t) (fun _ => tn398 t)
noncomputable def tn400 : TT := fun t => sel (Nat.blt t 223) (fun _ => tn396 t) (fun _ => tn399 t)
noncomputable def tn401 : TT := fun t => sel (Nat.blt t 221) (fun _ => tn393 t) (fun _ => tn400 t)
noncomputable def tn402 : TT := fun t => sel (Nat.blt t 218) (fun _ => tn388 t) (fun _ => tn401 t)
noncomputable def tn403 : TT := fun t => sel (Nat.blt t 212) (fun _ => tn377 t) (fun _ => tn402 t)
noncomputable def tn404 : TT := fun t => sel (Nat.blt t 198) (fun _ => tn352 t) (fun _ => tn403 t)
noncomputable def tn405 : TT := fun t => sel (Nat.blt t 172) (fun _ => tn303 t) (fun _ => tn404 t)
noncomputable def tn406 : TT := fun t => sel (Nat.blt t 116) (fun _ => tn202 t) (fun _ => tn405 t)
noncomputable def tys : TT := fun t => tn406 t
set_option maxRecDepth 1000000 in
theorem tyl_ok : tyl.map (tyRow Go.Proofs.Try.prog) = tyl.map tyWant := by kernel_rfl
theorem tys_ok : TTok Go.Proofs.Try.prog tys := fun t i h => tyIn_ok tyl_ok ((tyBr (tyBr (tyBr (tyBr (tyBr (tyBr (tyBr (tyLeaf (n := 0) rfl) (tyBr (tyLeaf (n := 1) rfl) (tyLeaf (n := 2) rfl))) (tyBr (tyLeaf (n := 3) rfl) (tyBr (tyLeaf (n := 4) rfl) (tyLeaf (n := 5) rfl)))) (tyBr (tyBr (tyLeaf (n := 6) rfl) (tyBr (tyLeaf (n := 7) rfl) (tyLeaf (n := 8) rfl))) (tyBr (tyLeaf (n := 9) rfl) (tyBr (tyLeaf (n := 10) rfl) (tyLeaf (n := 11) rfl))))) (tyBr (tyBr (tyBr (tyLeaf (n := 12) rfl) (tyBr (tyLeaf (n := 13) rfl) (tyLeaf (n := 14) rfl))) (tyBr (tyLeaf (n := 15) rfl) (tyBr (tyLeaf (n := 16) rfl) (tyLeaf (n := 17) rfl)))) (tyBr (tyBr (tyLeaf (n := 18) rfl) (tyBr (tyLeaf (n := 19) rfl) (tyLeaf (n := 20) rfl))) (tyBr (tyBr (tyLeaf (n := 21) rfl) (tyLeaf (n := 22) rfl)) (tyBr (tyLeaf (n := 23) rfl) (tyLeaf (n := 24) rfl)))))) (tyBr (tyBr (tyBr (tyBr (tyLeaf (n := 25) rfl) (tyBr (tyLeaf (n := 26) rfl) (tyLeaf (n := 27) rfl))) (tyBr (tyLeaf (n := 28) rfl) (tyBr (tyLeaf (n := 29) rfl) (tyLeaf (n := 30) rfl)))) (tyBr (tyBr (tyLeaf (n := 31) rfl) (tyBr (tyLeaf (n := 32) rfl) (tyLeaf (n := 33) rfl))) (tyBr (tyBr (tyLeaf (n := 34) rfl) (tyLeaf (n := 35) rfl)) (tyBr (tyLeaf (n := 36) rfl) (tyLeaf (n := 37) rfl))))) (tyBr (tyBr (tyBr (tyLeaf (n := 38) rfl) (tyBr (tyLeaf (n := 39) rfl) (tyLeaf (n := 40) rfl))) (tyBr (tyLeaf (n := 41) rfl) (tyBr (tyLeaf (n := 42) rfl) (tyLeaf (n := 43) rfl)))) (tyBr (tyBr (tyLeaf (n := 44) rfl) (tyBr (tyLeaf (n := 45) rfl) (tyLeaf (n := 46) rfl))) (tyBr (tyBr (tyLeaf (n := 47) rfl) (tyLeaf (n := 48) rfl)) (tyBr (tyLeaf (n := 49) rfl) (tyLeaf (n := 50) rfl))))))) (tyBr (tyBr (tyBr (tyBr (tyBr (tyLeaf (n := 51) rfl) (tyBr (tyLeaf (n := 52) rfl) (tyLeaf (n := 53) rfl))) (tyBr (tyLeaf (n := 54) rfl) (tyBr (tyLeaf (n := 55) rfl) (tyLeaf (n := 56) rfl)))) (tyBr (tyBr (tyLeaf (n := 57) rfl) (tyBr (tyLeaf (n := 58) rfl) (tyLeaf (n := 59) rfl))) (tyBr (tyLeaf (n := 60) rfl) (tyBr (tyLeaf (n := 61) rfl) (tyLeaf (n := 62) rfl))))) (tyBr (tyBr (tyBr (tyLeaf (n := 63) rfl) (tyBr (tyLeaf (n := 64) rfl) (tyLeaf (n := 65) rfl))) (tyBr (tyLeaf (n := 66) rfl) (tyBr (tyLeaf (n := 67) rfl) (tyLeaf (n := 68) rfl)))) (tyBr (tyBr (tyLeaf (n := 69) rfl) (tyBr (tyLeaf (n := 70) rfl) (tyLeaf (n := 71) rfl))) (tyBr (tyBr (tyLeaf (n := 72) rfl) (tyLeaf (n := 73) rfl)) (tyBr (tyLeaf (n := 74) rfl) (tyLeaf (n := 75) rfl)))))) (tyBr (tyBr (tyBr (tyBr (tyLeaf (n := 76) rfl) (tyBr (tyLeaf (n := 77) rfl) (tyLeaf (n := 78) rfl))) (tyBr (tyLeaf (n := 79) rfl) (tyBr (tyLeaf (n := 80) rfl) (tyLeaf (n := 81) rfl)))) (tyBr (tyBr (tyLeaf (n := 82) rfl) (tyBr (tyLeaf (n := 83) rfl) (tyLeaf (n := 84) rfl))) (tyBr (tyBr (tyLeaf (n := 85) rfl) (tyLeaf (n := 86) rfl)) (tyBr (tyLeaf (n := 87) rfl) (tyLeaf (n := 88) rfl))))) (tyBr (tyBr (tyBr (tyLeaf (n := 89) rfl) (tyBr (tyLeaf (n := 90) rfl) (tyLeaf (n := 91) rfl))) (tyBr (tyLeaf (n := 92) rfl) (tyBr (tyLeaf (n := 93) rfl) (tyLeaf (n := 94) rfl)))) (tyBr (tyBr (tyLeaf (n := 95) rfl) (tyBr (tyLeaf (n := 96) rfl) (tyLeaf (n := 97) rfl))) (tyBr (tyBr (tyLeaf (n := 98) rfl) (tyLeaf (n := 99) rfl)) (tyBr (tyLeaf (n := 100) rfl) (tyLeaf (n := 101) rfl)))))))) (tyBr (tyBr (tyBr (tyBr (tyBr (tyBr (tyLeaf (n := 102) rfl) (tyBr (tyLeaf (n := 103) rfl) (tyLeaf (n := 104) rfl))) (tyBr (tyLeaf (n := 105) rfl) (tyBr (tyLeaf (n := 106) rfl) (tyLeaf (n := 107) rfl)))) (tyBr (tyBr (tyLeaf (n := 108) rfl) (tyBr (tyLeaf (n := 109) rfl) (tyLeaf (n := 110) rfl))) (tyBr (tyLeaf (n := 111) rfl) (tyBr (tyLeaf (n := 112) rfl) (tyLeaf (n := 113) rfl))))) (tyBr (tyBr (tyBr (tyLeaf (n := 114) rfl) (tyBr (tyLeaf (n := 115) rfl) (tyLeaf (n := 116) rfl))) (tyBr (tyLeaf (n := 117) rfl) (tyBr (tyLeaf (n := 118) rfl) (tyLeaf (n := 119) rfl)))) (tyBr (tyBr (tyLeaf (n := 120) rfl) (tyBr (tyLeaf (n := 121) rfl) (tyLeaf (n := 122) rfl))) (tyBr (tyBr (tyLeaf (n := 123) rfl) (tyLeaf (n := 124) rfl)) (tyBr (tyLeaf (n := 125) rfl) (tyLeaf (n := 126) rfl)))))) (tyBr (tyBr (tyBr (tyBr (tyLeaf (n := 127) rfl) (tyBr (tyLeaf (n := 128) rfl) (tyLeaf (n := 129) rfl))) (tyBr (tyLeaf (n := 130) rfl) (tyBr (tyLeaf (n := 131) rfl) (tyLeaf (n := 132) rfl)))) (tyBr (tyBr (tyLeaf (n := 133) rfl) (tyBr (tyLeaf (n := 134) rfl) (tyLeaf (n := 135) rfl))) (tyBr (tyBr (tyLeaf (n := 136) rfl) (tyLeaf (n := 137) rfl)) (tyBr (tyLeaf (n := 138) rfl) (tyLeaf (n := 139) rfl))))) (tyBr (tyBr (tyBr (tyLeaf (n := 140) rfl) (tyBr (tyLeaf (n := 141) rfl) (tyLeaf (n := 142) rfl))) (tyBr (tyLeaf (n := 143) rfl) (tyBr (tyLeaf (n := 144) rfl) (tyLeaf (n := 145) rfl)))) (tyBr (tyBr (tyLeaf (n := 146) rfl) (tyBr (tyLeaf (n := 147) rfl) (tyLeaf (n := 148) rfl))) (tyBr (tyBr (tyLeaf (n := 149) rfl) (tyLeaf (n := 150) rfl)) (tyBr (tyLeaf (n := 151) rfl) (tyLeaf (n := 152) rfl))))))) (tyBr (tyBr (tyBr (tyBr (tyBr (tyLeaf (n := 153) rfl) (tyBr (tyLeaf (n := 154) rfl) (tyLeaf (n := 155) rfl))) (tyBr (tyLeaf (n := 156) rfl) (tyBr (tyLeaf (n := 157) rfl) (tyLeaf (n := 158) rfl)))) (tyBr (tyBr (tyLeaf (n := 159) rfl) (tyBr (tyLeaf (n := 160) rfl) (tyLeaf (n := 161) rfl))) (tyBr (tyLeaf (n := 162) rfl) (tyBr (tyLeaf (n := 163) rfl) (tyLeaf (n := 164) rfl))))) (tyBr (tyBr (tyBr (tyLeaf (n := 165) rfl) (tyBr (tyLeaf (n := 166) rfl) (tyLeaf (n := 167) rfl))) (tyBr (tyLeaf (n := 168) rfl) (tyBr (tyLeaf (n := 169) rfl) (tyLeaf (n := 170) rfl)))) (tyBr (tyBr (tyLeaf (n := 171) rfl) (tyBr (tyLeaf (n := 172) rfl) (tyLeaf (n := 173) rfl))) (tyBr (tyBr (tyLeaf (n := 174) rfl) (tyLeaf (n := 175) rfl)) (tyBr (tyLeaf (n := 176) rfl) (tyLeaf (n := 177) rfl)))))) (tyBr (tyBr (tyBr (tyBr (tyLeaf (n := 178) rfl) (tyBr (tyLeaf (n := 179) rfl) (tyLeaf (n := 180) rfl))) (tyBr (tyLeaf (n := 181) rfl) (tyBr (tyLeaf (n := 182) rfl) (tyLeaf (n := 183) rfl)))) (tyBr (tyBr (tyLeaf (n := 184) rfl) (tyBr (tyLeaf (n := 185) rfl) (tyLeaf (n := 186) rfl))) (tyBr (tyBr (tyLeaf (n := 187) rfl) (tyLeaf (n := 188) rfl)) (tyBr (tyLeaf (n := 189) rfl) (tyLeaf (n := 190) rfl))))) (tyBr (tyBr (tyBr (tyLeaf (n := 191) rfl) (tyBr (tyLeaf (n := 192) rfl) (tyLeaf (n := 193) rfl))) (tyBr (tyLeaf (n := 194) rfl) (tyBr (tyLeaf (n := 195) rfl) (tyLeaf (n := 196) rfl)))) (tyBr (tyBr (tyLeaf (n := 197) rfl) (tyBr (tyLeaf (n := 198) rfl) (tyLeaf (n := 199) rfl))) (tyBr (tyBr (tyLeaf (n := 200) rfl) (tyLeaf (n := 201) rfl)) (tyBr (tyLeaf (n := 202) rfl) (tyLeaf (n := 203) rfl))))))))) i h)
end Go.Proofs.Ytpopapmmceopmaa.X
