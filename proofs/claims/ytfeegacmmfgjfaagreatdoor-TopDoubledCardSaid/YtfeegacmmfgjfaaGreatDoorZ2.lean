/- Parts of the proof: The table of the types, as the reader uses it, and that the program has these types. Printed by wip/types.py. The framework, part P: a region whose order is drawn, by a plan that the kernel checks. The framework, part H: a region whose order is drawn: what only reads is taken first, in every world of a class; of the  No condition ahead of any statement but its own. -/
import Derived.Test.YtfeegacmmfgjfaaGreatDoorZ1
import Derived.Test.YtfeegacmmfgjfaaGreatDoorProg
import Derived.OrdersHeld
import Derived.Lib.ItoaNum
import Derived.Lib.Bytealg
import Derived.Test.YtfeegacmmfgjfaaGreatDoorS1
set_option maxHeartbeats 4000000
/-!  The table of the types, as the reader uses it, and that the program has these types. Printed by wip/types.py. -/
set_option linter.unusedVariables false
namespace Go.Proofs.YtfeegacmmfgjfaaGreatDoorX
open Go
def tt : TT := tnode 113 (tnode 55 (tnode 25 (tnode 12 (tnode 6 (tnode 3 (tnode 1 (tleaf 1 ⟨.other, 1, 8, .nilFunc⟩) (tnode 2 (tleaf 2 ⟨.int .i64, 1, 8, .int .i64 0⟩) (tleaf 3 ⟨.int .i64, 1, 8, .int .i64 0⟩))) (tnode 4 (tleaf 4 ⟨.bool, 1, 1, .bool false⟩) (tnode 5 (tleaf 5 ⟨.int .u8, 1, 1, .int .u8 0⟩) (tleaf 6 ⟨.int .u8, 1, 1, .int .u8 0⟩)))) (tnode 9 (tnode 7 (tleaf 7 ⟨.struct [(0, 2), (1, 3), (2, 4), (3, 6)], 4, 24, .agg #[.int .i64 0, .int .i64 0, .bool false, .int .u8 0]⟩) (tnode 8 (tleaf 8 ⟨.struct [(0, 2), (1, 3), (2, 4), (3, 6)], 4, 24, .agg #[.int .i64 0, .int .i64 0, .bool false, .int .u8 0]⟩) (tleaf 9 ⟨.str, 1, 16, .string ⟨#[]⟩⟩))) (tnode 10 (tleaf 10 ⟨.str, 1, 16, .string ⟨#[]⟩⟩) (tnode 11 (tleaf 11 ⟨.str, 1, 16, .string ⟨#[]⟩⟩) (tleaf 12 ⟨.int .u64, 1, 8, .int .u64 0⟩))))) (tnode 18 (tnode 15 (tnode 13 (tleaf 13 ⟨.struct [(0, 9), (1, 12)], 2, 24, .agg #[.string ⟨#[]⟩, .int .u64 0]⟩) (tnode 14 (tleaf 14 ⟨.struct [(0, 9), (1, 12)], 2, 24, .agg #[.string ⟨#[]⟩, .int .u64 0]⟩) (tleaf 15 ⟨.ptr, 1, 8, .pointer none⟩))) (tnode 16 (tleaf 16 ⟨.ptr, 1, 8, .pointer none⟩) (tnode 17 (tleaf 17 ⟨.ptr, 1, 8, .pointer none⟩) (tleaf 18 ⟨.struct [(0, 17)], 1, 8, .agg #[.pointer none]⟩)))) (tnode 21 (tnode 19 (tleaf 19 ⟨.struct [(0, 17)], 1, 8, .agg #[.pointer none]⟩) (tnode 20 (tleaf 20 ⟨.iface, 1, 16, .nilIface⟩) (tleaf 21 ⟨.int .i32, 1, 4, .int .i32 0⟩))) (tnode 23 (tnode 22 (tleaf 22 ⟨.slice 25, 1, 24, .slice none 0 0⟩) (tleaf 23 ⟨.slice 9, 1, 24, .slice none 0 0⟩)) (tnode 24 (tleaf 24 ⟨.other, 1, 8, .nilFunc⟩) (tleaf 25 ⟨.slice 51, 1, 24, .slice none 0 0⟩)))))) (tnode 40 (tnode 32 (tnode 28 (tnode 26 (tleaf 26 ⟨.slice 60, 1, 24, .slice none 0 0⟩) (tnode 27 (tleaf 27 ⟨.struct [(0, 26), (1, 26)], 2, 48, .agg #[.slice none 0 0, .slice none 0 0]⟩) (tleaf 28 ⟨.struct [(0, 26), (1, 26)], 2, 48, .agg #[.slice none 0 0, .slice none 0 0]⟩))) (tnode 29 (tleaf 29 ⟨.int .i64, 1, 8, .int .i64 0⟩) (tnode 31 (tleaf 31 ⟨.other, 1, 8, .nilFunc⟩) (tleaf 32 ⟨.other, 1, 8, .nilFunc⟩)))) (tnode 35 (tnode 33 (tleaf 33 ⟨.other, 1, 8, .nilFunc⟩) (tnode 34 (tleaf 34 ⟨.slice 23, 1, 24, .slice none 0 0⟩) (tleaf 35 ⟨.struct [(0, 23), (1, 23), (2, 34), (3, 34)], 4, 96, .agg #[.slice none 0 0, .slice none 0 0, .slice none 0 0, .slice none 0 0]⟩))) (tnode 36 (tleaf 36 ⟨.struct [(0, 23), (1, 23), (2, 34), (3, 34)], 4, 96, .agg #[.slice none 0 0, .slice none 0 0, .slice none 0 0, .slice none 0 0]⟩) (tnode 38 (tleaf 38 ⟨.other, 1, 8, .nilFunc⟩) (tleaf 40 ⟨.other, 1, 8, .nilFunc⟩))))) (tnode 48 (tnode 44 (tnode 41 (tleaf 41 ⟨.other, 1, 8, .nilFunc⟩) (tnode 42 (tleaf 42 ⟨.other, 1, 8, .nilFunc⟩) (tleaf 44 ⟨.other, 1, 8, .nilFunc⟩))) (tnode 45 (tleaf 45 ⟨.other, 1, 8, .nilFunc⟩) (tnode 46 (tleaf 46 ⟨.other, 1, 8, .nilFunc⟩) (tleaf 48 ⟨.other, 1, 8, .nilFunc⟩)))) (tnode 51 (tnode 49 (tleaf 49 ⟨.map 54 3, 1, 8, .map none⟩) (tnode 50 (tleaf 50 ⟨.struct [(0, 9), (1, 9)], 2, 32, .agg #[.string ⟨#[]⟩, .string ⟨#[]⟩]⟩) (tleaf 51 ⟨.struct [(0, 9), (1, 9)], 2, 32, .agg #[.string ⟨#[]⟩, .string ⟨#[]⟩]⟩))) (tnode 53 (tnode 52 (tleaf 52 ⟨.other, 1, 8, .nilFunc⟩) (tleaf 53 ⟨.struct [(0, 9), (1, 9)], 2, 32, .agg #[.string ⟨#[]⟩, .string ⟨#[]⟩]⟩)) (tnode 54 (tleaf 54 ⟨.struct [(0, 9), (1, 9)], 2, 32, .agg #[.string ⟨#[]⟩, .string ⟨#[]⟩]⟩) (tleaf 55 ⟨.other, 1, 8, .nilFunc⟩))))))) (tnode 85 (tnode 70 (tnode 62 (tnode 59 (tnode 56 (tleaf 56 ⟨.other, 1, 8, .nilFunc⟩) (tnode 58 (tleaf 58 ⟨.other, 1, 8, .nilFunc⟩) (tleaf 59 ⟨.struct [(0, 9), (1, 9), (2, 3)], 3, 40, .agg #[.string ⟨#[]⟩, .string ⟨#[]⟩, .int .i64 0]⟩))) (tnode 60 (tleaf 60 ⟨.struct [(0, 9), (1, 9), (2, 3)], 3, 40, .agg #[.string ⟨#[]⟩, .string ⟨#[]⟩, .int .i64 0]⟩) (tnode 61 (tleaf 61 ⟨.other, 1, 8, .nilFunc⟩) (tleaf 62 ⟨.other, 1, 8, .nilFunc⟩)))) (tnode 65 (tnode 63 (tleaf 63 ⟨.map 9 3, 1, 8, .map none⟩) (tnode 64 (tleaf 64 ⟨.struct [(0, 49), (1, 63)], 2, 16, .agg #[.map none, .map none]⟩) (tleaf 65 ⟨.struct [(0, 49), (1, 63)], 2, 16, .agg #[.map none, .map none]⟩))) (tnode 66 (tleaf 66 ⟨.other, 1, 8, .nilFunc⟩) (tnode 68 (tleaf 68 ⟨.other, 1, 8, .nilFunc⟩) (tleaf 70 ⟨.other, 1, 8, .nilFunc⟩))))) (tnode 78 (tnode 74 (tnode 72 (tleaf 72 ⟨.other, 1, 8, .nilFunc⟩) (tnode 73 (tleaf 73 ⟨.other, 1, 8, .nilFunc⟩) (tleaf 74 ⟨.other, 1, 8, .nilFunc⟩))) (tnode 75 (tleaf 75 ⟨.ptr, 1, 8, .pointer none⟩) (tnode 77 (tleaf 77 ⟨.other, 1, 8, .nilFunc⟩) (tleaf 78 ⟨.slice 3, 1, 24, .slice none 0 0⟩)))) (tnode 81 (tnode 79 (tleaf 79 ⟨.struct [(0, 9), (1, 78)], 2, 40, .agg #[.string ⟨#[]⟩, .slice none 0 0]⟩) (tnode 80 (tleaf 80 ⟨.struct [(0, 9), (1, 78)], 2, 40, .agg #[.string ⟨#[]⟩, .slice none 0 0]⟩) (tleaf 81 ⟨.other, 1, 8, .nilFunc⟩))) (tnode 83 (tnode 82 (tleaf 82 ⟨.other, 1, 8, .nilFunc⟩) (tleaf 83 ⟨.other, 1, 8, .nilFunc⟩)) (tnode 84 (tleaf 84 ⟨.other, 1, 8, .nilFunc⟩) (tleaf 85 ⟨.struct [(0, 36), (4, 78), (5, 29)], 6, 128, .agg #[.slice none 0 0, .slice none 0 0, .slice none 0 0, .slice none 0 0, .slice none 0 0, .int .i64 0]⟩)))))) (tnode 98 (tnode 91 (tnode 88 (tnode 86 (tleaf 86 ⟨.struct [(0, 36), (4, 78), (5, 29)], 6, 128, .agg #[.slice none 0 0, .slice none 0 0, .slice none 0 0, .slice none 0 0, .slice none 0 0, .int .i64 0]⟩) (tnode 87 (tleaf 87 ⟨.other, 1, 8, .nilFunc⟩) (tleaf 88 ⟨.other, 1, 8, .nilFunc⟩))) (tnode 89 (tleaf 89 ⟨.other, 1, 8, .nilFunc⟩) (tnode 90 (tleaf 90 ⟨.other, 1, 8, .nilFunc⟩) (tleaf 91 ⟨.struct [(0, 4), (1, 9), (2, 9)], 3, 40, .agg #[.bool false, .string ⟨#[]⟩, .string ⟨#[]⟩]⟩)))) (tnode 95 (tnode 92 (tleaf 92 ⟨.struct [(0, 4), (1, 9), (2, 9)], 3, 40, .agg #[.bool false, .string ⟨#[]⟩, .string ⟨#[]⟩]⟩) (tnode 94 (tleaf 94 ⟨.other, 1, 8, .nilFunc⟩) (tleaf 95 ⟨.other, 1, 8, .nilFunc⟩))) (tnode 96 (tleaf 96 ⟨.other, 1, 8, .nilFunc⟩) (tnode 97 (tleaf 97 ⟨.other, 1, 8, .nilFunc⟩) (tleaf 98 ⟨.other, 1, 8, .nilFunc⟩))))) (tnode 105 (tnode 102 (tnode 99 (tleaf 99 ⟨.other, 1, 8, .nilFunc⟩) (tnode 101 (tleaf 101 ⟨.other, 1, 8, .nilFunc⟩) (tleaf 102 ⟨.other, 1, 8, .nilFunc⟩))) (tnode 103 (tleaf 103 ⟨.other, 1, 8, .nilFunc⟩) (tnode 104 (tleaf 104 ⟨.other, 1, 8, .nilFunc⟩) (tleaf 105 ⟨.other, 1, 8, .nilFunc⟩)))) (tnode 109 (tnode 106 (tleaf 106 ⟨.map 3 80, 1, 8, .map none⟩) (tnode 108 (tleaf 108 ⟨.other, 1, 8, .nilFunc⟩) (tleaf 109 ⟨.other, 1, 8, .nilFunc⟩))) (tnode 111 (tnode 110 (tleaf 110 ⟨.other, 1, 8, .nilFunc⟩) (tleaf 111 ⟨.int .u64, 1, 8, .int .u64 0⟩)) (tnode 112 (tleaf 112 ⟨.other, 1, 8, .nilFunc⟩) (tleaf 113 ⟨.other, 1, 8, .nilFunc⟩)))))))) (tnode 168 (tnode 140 (tnode 127 (tnode 121 (tnode 117 (tnode 114 (tleaf 114 ⟨.slice 26, 1, 24, .slice none 0 0⟩) (tnode 115 (tleaf 115 ⟨.other, 1, 8, .nilFunc⟩) (tleaf 117 ⟨.other, 1, 8, .nilFunc⟩))) (tnode 119 (tleaf 119 ⟨.other, 1, 8, .nilFunc⟩) (tnode 120 (tleaf 120 ⟨.struct [], 0, 0, .agg #[]⟩) (tleaf 121 ⟨.struct [], 0, 0, .agg #[]⟩)))) (tnode 124 (tnode 122 (tleaf 122 ⟨.slice 124, 1, 24, .slice none 0 0⟩) (tnode 123 (tleaf 123 ⟨.other, 1, 8, .nilFunc⟩) (tleaf 124 ⟨.int .u64, 1, 8, .int .u64 0⟩))) (tnode 125 (tleaf 125 ⟨.other, 1, 8, .nilFunc⟩) (tnode 126 (tleaf 126 ⟨.other, 1, 8, .nilFunc⟩) (tleaf 127 ⟨.other, 1, 8, .nilFunc⟩))))) (tnode 133 (tnode 130 (tnode 128 (tleaf 128 ⟨.other, 1, 8, .nilFunc⟩) (tnode 129 (tleaf 129 ⟨.other, 1, 8, .nilFunc⟩) (tleaf 130 ⟨.other, 1, 8, .nilFunc⟩))) (tnode 131 (tleaf 131 ⟨.other, 1, 8, .nilFunc⟩) (tnode 132 (tleaf 132 ⟨.other, 1, 8, .nilFunc⟩) (tleaf 133 ⟨.other, 1, 8, .nilFunc⟩)))) (tnode 136 (tnode 134 (tleaf 134 ⟨.other, 1, 8, .nilFunc⟩) (tnode 135 (tleaf 135 ⟨.other, 1, 8, .nilFunc⟩) (tleaf 136 ⟨.other, 1, 8, .nilFunc⟩))) (tnode 138 (tnode 137 (tleaf 137 ⟨.slice 5, 1, 24, .slice none 0 0⟩) (tleaf 138 ⟨.other, 1, 8, .nilFunc⟩)) (tnode 139 (tleaf 139 ⟨.other, 1, 8, .nilFunc⟩) (tleaf 140 ⟨.other, 1, 8, .nilFunc⟩)))))) (tnode 155 (tnode 148 (tnode 144 (tnode 142 (tleaf 142 ⟨.other, 1, 8, .nilFunc⟩) (tnode 143 (tleaf 143 ⟨.other, 1, 8, .nilFunc⟩) (tleaf 144 ⟨.other, 1, 8, .nilFunc⟩))) (tnode 145 (tleaf 145 ⟨.int .i64, 1, 8, .int .i64 0⟩) (tnode 147 (tleaf 147 ⟨.other, 1, 8, .nilFunc⟩) (tleaf 148 ⟨.other, 1, 8, .nilFunc⟩)))) (tnode 151 (tnode 149 (tleaf 149 ⟨.other, 1, 8, .nilFunc⟩) (tnode 150 (tleaf 150 ⟨.other, 1, 8, .nilFunc⟩) (tleaf 151 ⟨.other, 1, 8, .nilFunc⟩))) (tnode 152 (tleaf 152 ⟨.int .u32, 1, 4, .int .u32 0⟩) (tnode 153 (tleaf 153 ⟨.other, 1, 8, .nilFunc⟩) (tleaf 155 ⟨.other, 1, 8, .nilFunc⟩))))) (tnode 161 (tnode 158 (tnode 156 (tleaf 156 ⟨.other, 1, 8, .nilFunc⟩) (tnode 157 (tleaf 157 ⟨.other, 1, 8, .nilFunc⟩) (tleaf 158 ⟨.other, 1, 8, .nilFunc⟩))) (tnode 159 (tleaf 159 ⟨.other, 1, 8, .nilFunc⟩) (tnode 160 (tleaf 160 ⟨.other, 1, 8, .nilFunc⟩) (tleaf 161 ⟨.other, 1, 8, .nilFunc⟩)))) (tnode 164 (tnode 162 (tleaf 162 ⟨.other, 1, 8, .nilFunc⟩) (tnode 163 (tleaf 163 ⟨.other, 1, 8, .nilFunc⟩) (tleaf 164 ⟨.other, 1, 8, .nilFunc⟩))) (tnode 166 (tnode 165 (tleaf 165 ⟨.other, 1, 8, .nilFunc⟩) (tleaf 166 ⟨.other, 1, 8, .nilFunc⟩)) (tnode 167 (tleaf 167 ⟨.other, 1, 8, .nilFunc⟩) (tleaf 168 ⟨.other, 1, 8, .nilFunc⟩))))))) (tnode 197 (tnode 180 (tnode 174 (tnode 171 (tnode 169 (tleaf 169 ⟨.other, 1, 8, .nilFunc⟩) (tnode 170 (tleaf 170 ⟨.int .u64, 1, 8, .int .u64 0⟩) (tleaf 171 ⟨.other, 1, 8, .nilFunc⟩))) (tnode 172 (tleaf 172 ⟨.other, 1, 8, .nilFunc⟩) (tnode 173 (tleaf 173 ⟨.other, 1, 8, .nilFunc⟩) (tleaf 174 ⟨.ptr, 1, 8, .pointer none⟩)))) (tnode 177 (tnode 175 (tleaf 175 ⟨.other, 1, 8, .nilFunc⟩) (tnode 176 (tleaf 176 ⟨.other, 1, 8, .nilFunc⟩) (tleaf 177 ⟨.other, 1, 8, .nilFunc⟩))) (tnode 178 (tleaf 178 ⟨.ptr, 1, 8, .pointer none⟩) (tnode 179 (tleaf 179 ⟨.struct [(0, 178), (1, 137)], 2, 32, .agg #[.pointer none, .slice none 0 0]⟩) (tleaf 180 ⟨.struct [(0, 178), (1, 137)], 2, 32, .agg #[.pointer none, .slice none 0 0]⟩))))) (tnode 187 (tnode 183 (tnode 181 (tleaf 181 ⟨.other, 1, 8, .nilFunc⟩) (tnode 182 (tleaf 182 ⟨.iface, 1, 16, .nilIface⟩) (tleaf 183 ⟨.iface, 1, 16, .nilIface⟩))) (tnode 185 (tleaf 185 ⟨.other, 1, 8, .nilFunc⟩) (tnode 186 (tleaf 186 ⟨.other, 1, 8, .nilFunc⟩) (tleaf 187 ⟨.other, 1, 8, .nilFunc⟩)))) (tnode 190 (tnode 188 (tleaf 188 ⟨.other, 1, 8, .nilFunc⟩) (tnode 189 (tleaf 189 ⟨.other, 1, 8, .nilFunc⟩) (tleaf 190 ⟨.other, 1, 8, .nilFunc⟩))) (tnode 192 (tnode 191 (tleaf 191 ⟨.other, 1, 8, .nilFunc⟩) (tleaf 192 ⟨.other, 1, 8, .nilFunc⟩)) (tnode 195 (tleaf 195 ⟨.other, 1, 8, .nilFunc⟩) (tleaf 197 ⟨.other, 1, 8, .nilFunc⟩)))))) (tnode 216 (tnode 205 (tnode 201 (tnode 198 (tleaf 198 ⟨.ptr, 1, 8, .pointer none⟩) (tnode 200 (tleaf 200 ⟨.other, 1, 8, .nilFunc⟩) (tleaf 201 ⟨.other, 1, 8, .nilFunc⟩))) (tnode 203 (tleaf 203 ⟨.other, 1, 8, .nilFunc⟩) (tnode 204 (tleaf 204 ⟨.other, 1, 8, .nilFunc⟩) (tleaf 205 ⟨.ptr, 1, 8, .pointer none⟩)))) (tnode 209 (tnode 207 (tleaf 207 ⟨.other, 1, 8, .nilFunc⟩) (tnode 208 (tleaf 208 ⟨.other, 1, 8, .nilFunc⟩) (tleaf 209 ⟨.other, 1, 8, .nilFunc⟩))) (tnode 213 (tleaf 213 ⟨.other, 1, 8, .nilFunc⟩) (tnode 215 (tleaf 215 ⟨.other, 1, 8, .nilFunc⟩) (tleaf 216 ⟨.other, 1, 8, .nilFunc⟩))))) (tnode 225 (tnode 221 (tnode 217 (tleaf 217 ⟨.other, 1, 8, .nilFunc⟩) (tnode 218 (tleaf 218 ⟨.other, 1, 8, .nilFunc⟩) (tleaf 221 ⟨.struct [(0, 17), (1, 17), (2, 17), (3, 9)], 4, 40, .agg #[.pointer none, .pointer none, .pointer none, .string ⟨#[]⟩]⟩))) (tnode 222 (tleaf 222 ⟨.struct [(0, 17), (1, 17), (2, 17), (3, 9)], 4, 40, .agg #[.pointer none, .pointer none, .pointer none, .string ⟨#[]⟩]⟩) (tnode 224 (tleaf 224 ⟨.struct [(0, 223)], 0, 0, .agg #[]⟩) (tleaf 225 ⟨.struct [(0, 223)], 0, 0, .agg #[]⟩)))) (tnode 228 (tnode 226 (tleaf 226 ⟨.int .u8, 1, 1, .int .u8 0⟩) (tnode 227 (tleaf 227 ⟨.int .u8, 1, 1, .int .u8 0⟩) (tleaf 228 ⟨.other, 1, 8, .nilFunc⟩))) (tnode 230 (tnode 229 (tleaf 229 ⟨.int .i32, 1, 4, .int .i32 0⟩) (tleaf 230 ⟨.int .i32, 1, 4, .int .i32 0⟩)) (tnode 231 (tleaf 231 ⟨.struct [(0, 12), (1, 12), (2, 152), (3, 226), (4, 5), (5, 5), (6, 227), (7, 228), (8, 205), (9, 229), (10, 230)], 11, 48, .agg #[.int .u64 0, .int .u64 0, .int .u32 0, .int .u8 0, .int .u8 0, .int .u8 0, .int .u8 0, .nilFunc, .pointer none, .int .i32 0, .int .i32 0]⟩) (tleaf 232 ⟨.struct [(0, 12), (1, 12), (2, 152), (3, 226), (4, 5), (5, 5), (6, 227), (7, 228), (8, 205), (9, 229), (10, 230)], 11, 48, .agg #[.int .u64 0, .int .u64 0, .int .u32 0, .int .u8 0, .int .u8 0, .int .u8 0, .int .u8 0, .nilFunc, .pointer none, .int .i32 0, .int .i32 0]⟩))))))))
theorem ti1 : TI.ok Tryz.prog 1 ⟨.other, 1, 8, .nilFunc⟩ := ⟨by kernel_rfl, ⟨_, _, _, Tryz.underlying1⟩⟩
theorem ti2 : TI.ok Tryz.prog 2 ⟨.int .i64, 1, 8, .int .i64 0⟩ := ⟨by kernel_rfl, Tryz.underlying2⟩
theorem ti3 : TI.ok Tryz.prog 3 ⟨.int .i64, 1, 8, .int .i64 0⟩ := ⟨by kernel_rfl, Tryz.underlying3⟩
theorem ti4 : TI.ok Tryz.prog 4 ⟨.bool, 1, 1, .bool false⟩ := ⟨by kernel_rfl, Tryz.underlying4⟩
theorem ti5 : TI.ok Tryz.prog 5 ⟨.int .u8, 1, 1, .int .u8 0⟩ := ⟨by kernel_rfl, Tryz.underlying5⟩
theorem ti6 : TI.ok Tryz.prog 6 ⟨.int .u8, 1, 1, .int .u8 0⟩ := ⟨by kernel_rfl, Tryz.underlying6⟩
theorem ti7 : TI.ok Tryz.prog 7 ⟨.struct [(0, 2), (1, 3), (2, 4), (3, 6)], 4, 24, .agg #[.int .i64 0, .int .i64 0, .bool false, .int .u8 0]⟩ := ⟨by kernel_rfl, ⟨_, Tryz.underlying7, rfl⟩⟩
theorem ti8 : TI.ok Tryz.prog 8 ⟨.struct [(0, 2), (1, 3), (2, 4), (3, 6)], 4, 24, .agg #[.int .i64 0, .int .i64 0, .bool false, .int .u8 0]⟩ := ⟨by kernel_rfl, ⟨_, Tryz.underlying8, rfl⟩⟩
theorem ti9 : TI.ok Tryz.prog 9 ⟨.str, 1, 16, .string ⟨#[]⟩⟩ := ⟨by kernel_rfl, Tryz.underlying9⟩
theorem ti10 : TI.ok Tryz.prog 10 ⟨.str, 1, 16, .string ⟨#[]⟩⟩ := ⟨by kernel_rfl, Tryz.underlying10⟩
theorem ti11 : TI.ok Tryz.prog 11 ⟨.str, 1, 16, .string ⟨#[]⟩⟩ := ⟨by kernel_rfl, Tryz.underlying11⟩
theorem ti12 : TI.ok Tryz.prog 12 ⟨.int .u64, 1, 8, .int .u64 0⟩ := ⟨by kernel_rfl, Tryz.underlying12⟩
theorem ti13 : TI.ok Tryz.prog 13 ⟨.struct [(0, 9), (1, 12)], 2, 24, .agg #[.string ⟨#[]⟩, .int .u64 0]⟩ := ⟨by kernel_rfl, ⟨_, Tryz.underlying13, rfl⟩⟩
theorem ti14 : TI.ok Tryz.prog 14 ⟨.struct [(0, 9), (1, 12)], 2, 24, .agg #[.string ⟨#[]⟩, .int .u64 0]⟩ := ⟨by kernel_rfl, ⟨_, Tryz.underlying14, rfl⟩⟩
theorem ti15 : TI.ok Tryz.prog 15 ⟨.ptr, 1, 8, .pointer none⟩ := ⟨by kernel_rfl, ⟨_, Tryz.underlying15⟩⟩
theorem ti16 : TI.ok Tryz.prog 16 ⟨.ptr, 1, 8, .pointer none⟩ := ⟨by kernel_rfl, ⟨_, Tryz.underlying16⟩⟩
theorem ti17 : TI.ok Tryz.prog 17 ⟨.ptr, 1, 8, .pointer none⟩ := ⟨by kernel_rfl, ⟨_, Tryz.underlying17⟩⟩
theorem ti18 : TI.ok Tryz.prog 18 ⟨.struct [(0, 17)], 1, 8, .agg #[.pointer none]⟩ := ⟨by kernel_rfl, ⟨_, Tryz.underlying18, rfl⟩⟩
theorem ti19 : TI.ok Tryz.prog 19 ⟨.struct [(0, 17)], 1, 8, .agg #[.pointer none]⟩ := ⟨by kernel_rfl, ⟨_, Tryz.underlying19, rfl⟩⟩
theorem ti20 : TI.ok Tryz.prog 20 ⟨.iface, 1, 16, .nilIface⟩ := ⟨by kernel_rfl, ⟨_, Tryz.underlying20⟩⟩
theorem ti21 : TI.ok Tryz.prog 21 ⟨.int .i32, 1, 4, .int .i32 0⟩ := ⟨by kernel_rfl, Tryz.underlying21⟩
theorem ti22 : TI.ok Tryz.prog 22 ⟨.slice 25, 1, 24, .slice none 0 0⟩ := ⟨by kernel_rfl, Tryz.underlying22⟩
theorem ti23 : TI.ok Tryz.prog 23 ⟨.slice 9, 1, 24, .slice none 0 0⟩ := ⟨by kernel_rfl, Tryz.underlying23⟩
theorem ti24 : TI.ok Tryz.prog 24 ⟨.other, 1, 8, .nilFunc⟩ := ⟨by kernel_rfl, ⟨_, _, _, Tryz.underlying24⟩⟩
theorem ti25 : TI.ok Tryz.prog 25 ⟨.slice 51, 1, 24, .slice none 0 0⟩ := ⟨by kernel_rfl, Tryz.underlying25⟩
theorem ti26 : TI.ok Tryz.prog 26 ⟨.slice 60, 1, 24, .slice none 0 0⟩ := ⟨by kernel_rfl, Tryz.underlying26⟩
theorem ti27 : TI.ok Tryz.prog 27 ⟨.struct [(0, 26), (1, 26)], 2, 48, .agg #[.slice none 0 0, .slice none 0 0]⟩ := ⟨by kernel_rfl, ⟨_, Tryz.underlying27, rfl⟩⟩
theorem ti28 : TI.ok Tryz.prog 28 ⟨.struct [(0, 26), (1, 26)], 2, 48, .agg #[.slice none 0 0, .slice none 0 0]⟩ := ⟨by kernel_rfl, ⟨_, Tryz.underlying28, rfl⟩⟩
theorem ti29 : TI.ok Tryz.prog 29 ⟨.int .i64, 1, 8, .int .i64 0⟩ := ⟨by kernel_rfl, Tryz.underlying29⟩
theorem ti31 : TI.ok Tryz.prog 31 ⟨.other, 1, 8, .nilFunc⟩ := ⟨by kernel_rfl, ⟨_, _, _, Tryz.underlying31⟩⟩
theorem ti32 : TI.ok Tryz.prog 32 ⟨.other, 1, 8, .nilFunc⟩ := ⟨by kernel_rfl, ⟨_, _, _, Tryz.underlying32⟩⟩
theorem ti33 : TI.ok Tryz.prog 33 ⟨.other, 1, 8, .nilFunc⟩ := ⟨by kernel_rfl, ⟨_, _, _, Tryz.underlying33⟩⟩
theorem ti34 : TI.ok Tryz.prog 34 ⟨.slice 23, 1, 24, .slice none 0 0⟩ := ⟨by kernel_rfl, Tryz.underlying34⟩
theorem ti35 : TI.ok Tryz.prog 35 ⟨.struct [(0, 23), (1, 23), (2, 34), (3, 34)], 4, 96, .agg #[.slice none 0 0, .slice none 0 0, .slice none 0 0, .slice none 0 0]⟩ := ⟨by kernel_rfl, ⟨_, Tryz.underlying35, rfl⟩⟩
theorem ti36 : TI.ok Tryz.prog 36 ⟨.struct [(0, 23), (1, 23), (2, 34), (3, 34)], 4, 96, .agg #[.slice none 0 0, .slice none 0 0, .slice none 0 0, .slice none 0 0]⟩ := ⟨by kernel_rfl, ⟨_, Tryz.underlying36, rfl⟩⟩
theorem ti38 : TI.ok Tryz.prog 38 ⟨.other, 1, 8, .nilFunc⟩ := ⟨by kernel_rfl, ⟨_, _, _, Tryz.underlying38⟩⟩
theorem ti40 : TI.ok Tryz.prog 40 ⟨.other, 1, 8, .nilFunc⟩ := ⟨by kernel_rfl, ⟨_, _, _, Tryz.underlying40⟩⟩
theorem ti41 : TI.ok Tryz.prog 41 ⟨.other, 1, 8, .nilFunc⟩ := ⟨by kernel_rfl, ⟨_, _, _, Tryz.underlying41⟩⟩
theorem ti42 : TI.ok Tryz.prog 42 ⟨.other, 1, 8, .nilFunc⟩ := ⟨by kernel_rfl, ⟨_, _, _, Tryz.underlying42⟩⟩
theorem ti44 : TI.ok Tryz.prog 44 ⟨.other, 1, 8, .nilFunc⟩ := ⟨by kernel_rfl, ⟨_, _, _, Tryz.underlying44⟩⟩
theorem ti45 : TI.ok Tryz.prog 45 ⟨.other, 1, 8, .nilFunc⟩ := ⟨by kernel_rfl, ⟨_, _, _, Tryz.underlying45⟩⟩
theorem ti46 : TI.ok Tryz.prog 46 ⟨.other, 1, 8, .nilFunc⟩ := ⟨by kernel_rfl, ⟨_, _, _, Tryz.underlying46⟩⟩
theorem ti48 : TI.ok Tryz.prog 48 ⟨.other, 1, 8, .nilFunc⟩ := ⟨by kernel_rfl, ⟨_, _, _, Tryz.underlying48⟩⟩
theorem ti49 : TI.ok Tryz.prog 49 ⟨.map 54 3, 1, 8, .map none⟩ := ⟨by kernel_rfl, Tryz.underlying49⟩
theorem ti50 : TI.ok Tryz.prog 50 ⟨.struct [(0, 9), (1, 9)], 2, 32, .agg #[.string ⟨#[]⟩, .string ⟨#[]⟩]⟩ := ⟨by kernel_rfl, ⟨_, Tryz.underlying50, rfl⟩⟩
theorem ti51 : TI.ok Tryz.prog 51 ⟨.struct [(0, 9), (1, 9)], 2, 32, .agg #[.string ⟨#[]⟩, .string ⟨#[]⟩]⟩ := ⟨by kernel_rfl, ⟨_, Tryz.underlying51, rfl⟩⟩
theorem ti52 : TI.ok Tryz.prog 52 ⟨.other, 1, 8, .nilFunc⟩ := ⟨by kernel_rfl, ⟨_, _, _, Tryz.underlying52⟩⟩
theorem ti53 : TI.ok Tryz.prog 53 ⟨.struct [(0, 9), (1, 9)], 2, 32, .agg #[.string ⟨#[]⟩, .string ⟨#[]⟩]⟩ := ⟨by kernel_rfl, ⟨_, Tryz.underlying53, rfl⟩⟩
theorem ti54 : TI.ok Tryz.prog 54 ⟨.struct [(0, 9), (1, 9)], 2, 32, .agg #[.string ⟨#[]⟩, .string ⟨#[]⟩]⟩ := ⟨by kernel_rfl, ⟨_, Tryz.underlying54, rfl⟩⟩
theorem ti55 : TI.ok Tryz.prog 55 ⟨.other, 1, 8, .nilFunc⟩ := ⟨by kernel_rfl, ⟨_, _, _, Tryz.underlying55⟩⟩
theorem ti56 : TI.ok Tryz.prog 56 ⟨.other, 1, 8, .nilFunc⟩ := ⟨by kernel_rfl, ⟨_, _, _, Tryz.underlying56⟩⟩
theorem ti58 : TI.ok Tryz.prog 58 ⟨.other, 1, 8, .nilFunc⟩ := ⟨by kernel_rfl, ⟨_, _, _, Tryz.underlying58⟩⟩
theorem ti59 : TI.ok Tryz.prog 59 ⟨.struct [(0, 9), (1, 9), (2, 3)], 3, 40, .agg #[.string ⟨#[]⟩, .string ⟨#[]⟩, .int .i64 0]⟩ := ⟨by kernel_rfl, ⟨_, Tryz.underlying59, rfl⟩⟩
theorem ti60 : TI.ok Tryz.prog 60 ⟨.struct [(0, 9), (1, 9), (2, 3)], 3, 40, .agg #[.string ⟨#[]⟩, .string ⟨#[]⟩, .int .i64 0]⟩ := ⟨by kernel_rfl, ⟨_, Tryz.underlying60, rfl⟩⟩
theorem ti61 : TI.ok Tryz.prog 61 ⟨.other, 1, 8, .nilFunc⟩ := ⟨by kernel_rfl, ⟨_, _, _, Tryz.underlying61⟩⟩
theorem ti62 : TI.ok Tryz.prog 62 ⟨.other, 1, 8, .nilFunc⟩ := ⟨by kernel_rfl, ⟨_, _, _, Tryz.underlying62⟩⟩
theorem ti63 : TI.ok Tryz.prog 63 ⟨.map 9 3, 1, 8, .map none⟩ := ⟨by kernel_rfl, Tryz.underlying63⟩
theorem ti64 : TI.ok Tryz.prog 64 ⟨.struct [(0, 49), (1, 63)], 2, 16, .agg #[.map none, .map none]⟩ := ⟨by kernel_rfl, ⟨_, Tryz.underlying64, rfl⟩⟩
theorem ti65 : TI.ok Tryz.prog 65 ⟨.struct [(0, 49), (1, 63)], 2, 16, .agg #[.map none, .map none]⟩ := ⟨by kernel_rfl, ⟨_, Tryz.underlying65, rfl⟩⟩
theorem ti66 : TI.ok Tryz.prog 66 ⟨.other, 1, 8, .nilFunc⟩ := ⟨by kernel_rfl, ⟨_, _, _, Tryz.underlying66⟩⟩
theorem ti68 : TI.ok Tryz.prog 68 ⟨.other, 1, 8, .nilFunc⟩ := ⟨by kernel_rfl, ⟨_, _, _, Tryz.underlying68⟩⟩
theorem ti70 : TI.ok Tryz.prog 70 ⟨.other, 1, 8, .nilFunc⟩ := ⟨by kernel_rfl, ⟨_, _, _, Tryz.underlying70⟩⟩
theorem ti72 : TI.ok Tryz.prog 72 ⟨.other, 1, 8, .nilFunc⟩ := ⟨by kernel_rfl, ⟨_, _, _, Tryz.underlying72⟩⟩
theorem ti73 : TI.ok Tryz.prog 73 ⟨.other, 1, 8, .nilFunc⟩ := ⟨by kernel_rfl, ⟨_, _, _, Tryz.underlying73⟩⟩
theorem ti74 : TI.ok Tryz.prog 74 ⟨.other, 1, 8, .nilFunc⟩ := ⟨by kernel_rfl, ⟨_, _, _, Tryz.underlying74⟩⟩
theorem ti75 : TI.ok Tryz.prog 75 ⟨.ptr, 1, 8, .pointer none⟩ := ⟨by kernel_rfl, ⟨_, Tryz.underlying75⟩⟩
theorem ti77 : TI.ok Tryz.prog 77 ⟨.other, 1, 8, .nilFunc⟩ := ⟨by kernel_rfl, ⟨_, _, _, Tryz.underlying77⟩⟩
theorem ti78 : TI.ok Tryz.prog 78 ⟨.slice 3, 1, 24, .slice none 0 0⟩ := ⟨by kernel_rfl, Tryz.underlying78⟩
theorem ti79 : TI.ok Tryz.prog 79 ⟨.struct [(0, 9), (1, 78)], 2, 40, .agg #[.string ⟨#[]⟩, .slice none 0 0]⟩ := ⟨by kernel_rfl, ⟨_, Tryz.underlying79, rfl⟩⟩
theorem ti80 : TI.ok Tryz.prog 80 ⟨.struct [(0, 9), (1, 78)], 2, 40, .agg #[.string ⟨#[]⟩, .slice none 0 0]⟩ := ⟨by kernel_rfl, ⟨_, Tryz.underlying80, rfl⟩⟩
theorem ti81 : TI.ok Tryz.prog 81 ⟨.other, 1, 8, .nilFunc⟩ := ⟨by kernel_rfl, ⟨_, _, _, Tryz.underlying81⟩⟩
theorem ti82 : TI.ok Tryz.prog 82 ⟨.other, 1, 8, .nilFunc⟩ := ⟨by kernel_rfl, ⟨_, _, _, Tryz.underlying82⟩⟩
theorem ti83 : TI.ok Tryz.prog 83 ⟨.other, 1, 8, .nilFunc⟩ := ⟨by kernel_rfl, ⟨_, _, _, Tryz.underlying83⟩⟩
theorem ti84 : TI.ok Tryz.prog 84 ⟨.other, 1, 8, .nilFunc⟩ := ⟨by kernel_rfl, ⟨_, _, _, Tryz.underlying84⟩⟩
theorem ti85 : TI.ok Tryz.prog 85 ⟨.struct [(0, 36), (4, 78), (5, 29)], 6, 128, .agg #[.slice none 0 0, .slice none 0 0, .slice none 0 0, .slice none 0 0, .slice none 0 0, .int .i64 0]⟩ := ⟨by kernel_rfl, ⟨_, Tryz.underlying85, rfl⟩⟩
theorem ti86 : TI.ok Tryz.prog 86 ⟨.struct [(0, 36), (4, 78), (5, 29)], 6, 128, .agg #[.slice none 0 0, .slice none 0 0, .slice none 0 0, .slice none 0 0, .slice none 0 0, .int .i64 0]⟩ := ⟨by kernel_rfl, ⟨_, Tryz.underlying86, rfl⟩⟩
theorem ti87 : TI.ok Tryz.prog 87 ⟨.other, 1, 8, .nilFunc⟩ := ⟨by kernel_rfl, ⟨_, _, _, Tryz.underlying87⟩⟩
theorem ti88 : TI.ok Tryz.prog 88 ⟨.other, 1, 8, .nilFunc⟩ := ⟨by kernel_rfl, ⟨_, _, _, Tryz.underlying88⟩⟩
theorem ti89 : TI.ok Tryz.prog 89 ⟨.other, 1, 8, .nilFunc⟩ := ⟨by kernel_rfl, ⟨_, _, _, Tryz.underlying89⟩⟩
theorem ti90 : TI.ok Tryz.prog 90 ⟨.other, 1, 8, .nilFunc⟩ := ⟨by kernel_rfl, ⟨_, _, _, Tryz.underlying90⟩⟩
theorem ti91 : TI.ok Tryz.prog 91 ⟨.struct [(0, 4), (1, 9), (2, 9)], 3, 40, .agg #[.bool false, .string ⟨#[]⟩, .string ⟨#[]⟩]⟩ := ⟨by kernel_rfl, ⟨_, Tryz.underlying91, rfl⟩⟩
theorem ti92 : TI.ok Tryz.prog 92 ⟨.struct [(0, 4), (1, 9), (2, 9)], 3, 40, .agg #[.bool false, .string ⟨#[]⟩, .string ⟨#[]⟩]⟩ := ⟨by kernel_rfl, ⟨_, Tryz.underlying92, rfl⟩⟩
theorem ti94 : TI.ok Tryz.prog 94 ⟨.other, 1, 8, .nilFunc⟩ := ⟨by kernel_rfl, ⟨_, _, _, Tryz.underlying94⟩⟩
theorem ti95 : TI.ok Tryz.prog 95 ⟨.other, 1, 8, .nilFunc⟩ := ⟨by kernel_rfl, ⟨_, _, _, Tryz.underlying95⟩⟩
theorem ti96 : TI.ok Tryz.prog 96 ⟨.other, 1, 8, .nilFunc⟩ := ⟨by kernel_rfl, ⟨_, _, _, Tryz.underlying96⟩⟩
theorem ti97 : TI.ok Tryz.prog 97 ⟨.other, 1, 8, .nilFunc⟩ := ⟨by kernel_rfl, ⟨_, _, _, Tryz.underlying97⟩⟩
theorem ti98 : TI.ok Tryz.prog 98 ⟨.other, 1, 8, .nilFunc⟩ := ⟨by kernel_rfl, ⟨_, _, _, Tryz.underlying98⟩⟩
theorem ti99 : TI.ok Tryz.prog 99 ⟨.other, 1, 8, .nilFunc⟩ := ⟨by kernel_rfl, ⟨_, _, _, Tryz.underlying99⟩⟩
theorem ti101 : TI.ok Tryz.prog 101 ⟨.other, 1, 8, .nilFunc⟩ := ⟨by kernel_rfl, ⟨_, _, _, Tryz.underlying101⟩⟩
theorem ti102 : TI.ok Tryz.prog 102 ⟨.other, 1, 8, .nilFunc⟩ := ⟨by kernel_rfl, ⟨_, _, _, Tryz.underlying102⟩⟩
theorem ti103 : TI.ok Tryz.prog 103 ⟨.other, 1, 8, .nilFunc⟩ := ⟨by kernel_rfl, ⟨_, _, _, Tryz.underlying103⟩⟩
theorem ti104 : TI.ok Tryz.prog 104 ⟨.other, 1, 8, .nilFunc⟩ := ⟨by kernel_rfl, ⟨_, _, _, Tryz.underlying104⟩⟩
theorem ti105 : TI.ok Tryz.prog 105 ⟨.other, 1, 8, .nilFunc⟩ := ⟨by kernel_rfl, ⟨_, _, _, Tryz.underlying105⟩⟩
theorem ti106 : TI.ok Tryz.prog 106 ⟨.map 3 80, 1, 8, .map none⟩ := ⟨by kernel_rfl, Tryz.underlying106⟩
theorem ti108 : TI.ok Tryz.prog 108 ⟨.other, 1, 8, .nilFunc⟩ := ⟨by kernel_rfl, ⟨_, _, _, Tryz.underlying108⟩⟩
theorem ti109 : TI.ok Tryz.prog 109 ⟨.other, 1, 8, .nilFunc⟩ := ⟨by kernel_rfl, ⟨_, _, _, Tryz.underlying109⟩⟩
theorem ti110 : TI.ok Tryz.prog 110 ⟨.other, 1, 8, .nilFunc⟩ := ⟨by kernel_rfl, ⟨_, _, _, Tryz.underlying110⟩⟩
theorem ti111 : TI.ok Tryz.prog 111 ⟨.int .u64, 1, 8, .int .u64 0⟩ := ⟨by kernel_rfl, Tryz.underlying111⟩
theorem ti112 : TI.ok Tryz.prog 112 ⟨.other, 1, 8, .nilFunc⟩ := ⟨by kernel_rfl, ⟨_, _, _, Tryz.underlying112⟩⟩
theorem ti113 : TI.ok Tryz.prog 113 ⟨.other, 1, 8, .nilFunc⟩ := ⟨by kernel_rfl, ⟨_, _, _, Tryz.underlying113⟩⟩
theorem ti114 : TI.ok Tryz.prog 114 ⟨.slice 26, 1, 24, .slice none 0 0⟩ := ⟨by kernel_rfl, Tryz.underlying114⟩
theorem ti115 : TI.ok Tryz.prog 115 ⟨.other, 1, 8, .nilFunc⟩ := ⟨by kernel_rfl, ⟨_, _, _, Tryz.underlying115⟩⟩
theorem ti117 : TI.ok Tryz.prog 117 ⟨.other, 1, 8, .nilFunc⟩ := ⟨by kernel_rfl, ⟨_, _, _, Tryz.underlying117⟩⟩
theorem ti119 : TI.ok Tryz.prog 119 ⟨.other, 1, 8, .nilFunc⟩ := ⟨by kernel_rfl, ⟨_, _, _, Tryz.underlying119⟩⟩
theorem ti120 : TI.ok Tryz.prog 120 ⟨.struct [], 0, 0, .agg #[]⟩ := ⟨by kernel_rfl, ⟨_, Tryz.underlying120, rfl⟩⟩
theorem ti121 : TI.ok Tryz.prog 121 ⟨.struct [], 0, 0, .agg #[]⟩ := ⟨by kernel_rfl, ⟨_, Tryz.underlying121, rfl⟩⟩
theorem ti122 : TI.ok Tryz.prog 122 ⟨.slice 124, 1, 24, .slice none 0 0⟩ := ⟨by kernel_rfl, Tryz.underlying122⟩
theorem ti123 : TI.ok Tryz.prog 123 ⟨.other, 1, 8, .nilFunc⟩ := ⟨by kernel_rfl, ⟨_, _, _, Tryz.underlying123⟩⟩
theorem ti124 : TI.ok Tryz.prog 124 ⟨.int .u64, 1, 8, .int .u64 0⟩ := ⟨by kernel_rfl, Tryz.underlying124⟩
theorem ti125 : TI.ok Tryz.prog 125 ⟨.other, 1, 8, .nilFunc⟩ := ⟨by kernel_rfl, ⟨_, _, _, Tryz.underlying125⟩⟩
theorem ti126 : TI.ok Tryz.prog 126 ⟨.other, 1, 8, .nilFunc⟩ := ⟨by kernel_rfl, ⟨_, _, _, Tryz.underlying126⟩⟩
theorem ti127 : TI.ok Tryz.prog 127 ⟨.other, 1, 8, .nilFunc⟩ := ⟨by kernel_rfl, ⟨_, _, _, Tryz.underlying127⟩⟩
theorem ti128 : TI.ok Tryz.prog 128 ⟨.other, 1, 8, .nilFunc⟩ := ⟨by kernel_rfl, ⟨_, _, _, Tryz.underlying128⟩⟩
theorem ti129 : TI.ok Tryz.prog 129 ⟨.other, 1, 8, .nilFunc⟩ := ⟨by kernel_rfl, ⟨_, _, _, Tryz.underlying129⟩⟩
theorem ti130 : TI.ok Tryz.prog 130 ⟨.other, 1, 8, .nilFunc⟩ := ⟨by kernel_rfl, ⟨_, _, _, Tryz.underlying130⟩⟩
theorem ti131 : TI.ok Tryz.prog 131 ⟨.other, 1, 8, .nilFunc⟩ := ⟨by kernel_rfl, ⟨_, _, _, Tryz.underlying131⟩⟩
theorem ti132 : TI.ok Tryz.prog 132 ⟨.other, 1, 8, .nilFunc⟩ := ⟨by kernel_rfl, ⟨_, _, _, Tryz.underlying132⟩⟩
theorem ti133 : TI.ok Tryz.prog 133 ⟨.other, 1, 8, .nilFunc⟩ := ⟨by kernel_rfl, ⟨_, _, _, Tryz.underlying133⟩⟩
theorem ti134 : TI.ok Tryz.prog 134 ⟨.other, 1, 8, .nilFunc⟩ := ⟨by kernel_rfl, ⟨_, _, _, Tryz.underlying134⟩⟩
theorem ti135 : TI.ok Tryz.prog 135 ⟨.other, 1, 8, .nilFunc⟩ := ⟨by kernel_rfl, ⟨_, _, _, Tryz.underlying135⟩⟩
theorem ti136 : TI.ok Tryz.prog 136 ⟨.other, 1, 8, .nilFunc⟩ := ⟨by kernel_rfl, ⟨_, _, _, Tryz.underlying136⟩⟩
theorem ti137 : TI.ok Tryz.prog 137 ⟨.slice 5, 1, 24, .slice none 0 0⟩ := ⟨by kernel_rfl, Tryz.underlying137⟩
theorem ti138 : TI.ok Tryz.prog 138 ⟨.other, 1, 8, .nilFunc⟩ := ⟨by kernel_rfl, ⟨_, _, _, Tryz.underlying138⟩⟩
theorem ti139 : TI.ok Tryz.prog 139 ⟨.other, 1, 8, .nilFunc⟩ := ⟨by kernel_rfl, ⟨_, _, _, Tryz.underlying139⟩⟩
theorem ti140 : TI.ok Tryz.prog 140 ⟨.other, 1, 8, .nilFunc⟩ := ⟨by kernel_rfl, ⟨_, _, _, Tryz.underlying140⟩⟩
theorem ti142 : TI.ok Tryz.prog 142 ⟨.other, 1, 8, .nilFunc⟩ := ⟨by kernel_rfl, ⟨_, _, _, Tryz.underlying142⟩⟩
theorem ti143 : TI.ok Tryz.prog 143 ⟨.other, 1, 8, .nilFunc⟩ := ⟨by kernel_rfl, ⟨_, _, _, Tryz.underlying143⟩⟩
theorem ti144 : TI.ok Tryz.prog 144 ⟨.other, 1, 8, .nilFunc⟩ := ⟨by kernel_rfl, ⟨_, _, _, Tryz.underlying144⟩⟩
theorem ti145 : TI.ok Tryz.prog 145 ⟨.int .i64, 1, 8, .int .i64 0⟩ := ⟨by kernel_rfl, Tryz.underlying145⟩
theorem ti147 : TI.ok Tryz.prog 147 ⟨.other, 1, 8, .nilFunc⟩ := ⟨by kernel_rfl, ⟨_, _, _, Tryz.underlying147⟩⟩
theorem ti148 : TI.ok Tryz.prog 148 ⟨.other, 1, 8, .nilFunc⟩ := ⟨by kernel_rfl, ⟨_, _, _, Tryz.underlying148⟩⟩
theorem ti149 : TI.ok Tryz.prog 149 ⟨.other, 1, 8, .nilFunc⟩ := ⟨by kernel_rfl, ⟨_, _, _, Tryz.underlying149⟩⟩
theorem ti150 : TI.ok Tryz.prog 150 ⟨.other, 1, 8, .nilFunc⟩ := ⟨by kernel_rfl, ⟨_, _, _, Tryz.underlying150⟩⟩
theorem ti151 : TI.ok Tryz.prog 151 ⟨.other, 1, 8, .nilFunc⟩ := ⟨by kernel_rfl, ⟨_, _, _, Tryz.underlying151⟩⟩
theorem ti152 : TI.ok Tryz.prog 152 ⟨.int .u32, 1, 4, .int .u32 0⟩ := ⟨by kernel_rfl, Tryz.underlying152⟩
theorem ti153 : TI.ok Tryz.prog 153 ⟨.other, 1, 8, .nilFunc⟩ := ⟨by kernel_rfl, ⟨_, _, _, Tryz.underlying153⟩⟩
theorem ti155 : TI.ok Tryz.prog 155 ⟨.other, 1, 8, .nilFunc⟩ := ⟨by kernel_rfl, ⟨_, _, _, Tryz.underlying155⟩⟩
theorem ti156 : TI.ok Tryz.prog 156 ⟨.other, 1, 8, .nilFunc⟩ := ⟨by kernel_rfl, ⟨_, _, _, Tryz.underlying156⟩⟩
theorem ti157 : TI.ok Tryz.prog 157 ⟨.other, 1, 8, .nilFunc⟩ := ⟨by kernel_rfl, ⟨_, _, _, Tryz.underlying157⟩⟩
theorem ti158 : TI.ok Tryz.prog 158 ⟨.other, 1, 8, .nilFunc⟩ := ⟨by kernel_rfl, ⟨_, _, _, Tryz.underlying158⟩⟩
theorem ti159 : TI.ok Tryz.prog 159 ⟨.other, 1, 8, .nilFunc⟩ := ⟨by kernel_rfl, ⟨_, _, _, Tryz.underlying159⟩⟩
theorem ti160 : TI.ok Tryz.prog 160 ⟨.other, 1, 8, .nilFunc⟩ := ⟨by kernel_rfl, ⟨_, _, _, Tryz.underlying160⟩⟩
theorem ti161 : TI.ok Tryz.prog 161 ⟨.other, 1, 8, .nilFunc⟩ := ⟨by kernel_rfl, ⟨_, _, _, Tryz.underlying161⟩⟩
theorem ti162 : TI.ok Tryz.prog 162 ⟨.other, 1, 8, .nilFunc⟩ := ⟨by kernel_rfl, ⟨_, _, _, Tryz.underlying162⟩⟩
theorem ti163 : TI.ok Tryz.prog 163 ⟨.other, 1, 8, .nilFunc⟩ := ⟨by kernel_rfl, ⟨_, _, _, Tryz.underlying163⟩⟩
theorem ti164 : TI.ok Tryz.prog 164 ⟨.other, 1, 8, .nilFunc⟩ := ⟨by kernel_rfl, ⟨_, _, _, Tryz.underlying164⟩⟩
theorem ti165 : TI.ok Tryz.prog 165 ⟨.other, 1, 8, .nilFunc⟩ := ⟨by kernel_rfl, ⟨_, _, _, Tryz.underlying165⟩⟩
theorem ti166 : TI.ok Tryz.prog 166 ⟨.other, 1, 8, .nilFunc⟩ := ⟨by kernel_rfl, ⟨_, _, _, Tryz.underlying166⟩⟩
theorem ti167 : TI.ok Tryz.prog 167 ⟨.other, 1, 8, .nilFunc⟩ := ⟨by kernel_rfl, ⟨_, _, _, Tryz.underlying167⟩⟩
theorem ti168 : TI.ok Tryz.prog 168 ⟨.other, 1, 8, .nilFunc⟩ := ⟨by kernel_rfl, ⟨_, _, _, Tryz.underlying168⟩⟩
theorem ti169 : TI.ok Tryz.prog 169 ⟨.other, 1, 8, .nilFunc⟩ := ⟨by kernel_rfl, ⟨_, _, _, Tryz.underlying169⟩⟩
theorem ti170 : TI.ok Tryz.prog 170 ⟨.int .u64, 1, 8, .int .u64 0⟩ := ⟨by kernel_rfl, Tryz.underlying170⟩
theorem ti171 : TI.ok Tryz.prog 171 ⟨.other, 1, 8, .nilFunc⟩ := ⟨by kernel_rfl, ⟨_, _, _, Tryz.underlying171⟩⟩
theorem ti172 : TI.ok Tryz.prog 172 ⟨.other, 1, 8, .nilFunc⟩ := ⟨by kernel_rfl, ⟨_, _, _, Tryz.underlying172⟩⟩
theorem ti173 : TI.ok Tryz.prog 173 ⟨.other, 1, 8, .nilFunc⟩ := ⟨by kernel_rfl, ⟨_, _, _, Tryz.underlying173⟩⟩
theorem ti174 : TI.ok Tryz.prog 174 ⟨.ptr, 1, 8, .pointer none⟩ := ⟨by kernel_rfl, ⟨_, Tryz.underlying174⟩⟩
theorem ti175 : TI.ok Tryz.prog 175 ⟨.other, 1, 8, .nilFunc⟩ := ⟨by kernel_rfl, ⟨_, _, _, Tryz.underlying175⟩⟩
theorem ti176 : TI.ok Tryz.prog 176 ⟨.other, 1, 8, .nilFunc⟩ := ⟨by kernel_rfl, ⟨_, _, _, Tryz.underlying176⟩⟩
theorem ti177 : TI.ok Tryz.prog 177 ⟨.other, 1, 8, .nilFunc⟩ := ⟨by kernel_rfl, ⟨_, _, _, Tryz.underlying177⟩⟩
theorem ti178 : TI.ok Tryz.prog 178 ⟨.ptr, 1, 8, .pointer none⟩ := ⟨by kernel_rfl, ⟨_, Tryz.underlying178⟩⟩
theorem ti179 : TI.ok Tryz.prog 179 ⟨.struct [(0, 178), (1, 137)], 2, 32, .agg #[.pointer none, .slice none 0 0]⟩ := ⟨by kernel_rfl, ⟨_, Tryz.underlying179, rfl⟩⟩
theorem ti180 : TI.ok Tryz.prog 180 ⟨.struct [(0, 178), (1, 137)], 2, 32, .agg #[.pointer none, .slice none 0 0]⟩ := ⟨by kernel_rfl, ⟨_, Tryz.underlying180, rfl⟩⟩
theorem ti181 : TI.ok Tryz.prog 181 ⟨.other, 1, 8, .nilFunc⟩ := ⟨by kernel_rfl, ⟨_, _, _, Tryz.underlying181⟩⟩
theorem ti182 : TI.ok Tryz.prog 182 ⟨.iface, 1, 16, .nilIface⟩ := ⟨by kernel_rfl, ⟨_, Tryz.underlying182⟩⟩
theorem ti183 : TI.ok Tryz.prog 183 ⟨.iface, 1, 16, .nilIface⟩ := ⟨by kernel_rfl, ⟨_, Tryz.underlying183⟩⟩
theorem ti185 : TI.ok Tryz.prog 185 ⟨.other, 1, 8, .nilFunc⟩ := ⟨by kernel_rfl, ⟨_, _, _, Tryz.underlying185⟩⟩
theorem ti186 : TI.ok Tryz.prog 186 ⟨.other, 1, 8, .nilFunc⟩ := ⟨by kernel_rfl, ⟨_, _, _, Tryz.underlying186⟩⟩
theorem ti187 : TI.ok Tryz.prog 187 ⟨.other, 1, 8, .nilFunc⟩ := ⟨by kernel_rfl, ⟨_, _, _, Tryz.underlying187⟩⟩
theorem ti188 : TI.ok Tryz.prog 188 ⟨.other, 1, 8, .nilFunc⟩ := ⟨by kernel_rfl, ⟨_, _, _, Tryz.underlying188⟩⟩
theorem ti189 : TI.ok Tryz.prog 189 ⟨.other, 1, 8, .nilFunc⟩ := ⟨by kernel_rfl, ⟨_, _, _, Tryz.underlying189⟩⟩
theorem ti190 : TI.ok Tryz.prog 190 ⟨.other, 1, 8, .nilFunc⟩ := ⟨by kernel_rfl, ⟨_, _, _, Tryz.underlying190⟩⟩
theorem ti191 : TI.ok Tryz.prog 191 ⟨.other, 1, 8, .nilFunc⟩ := ⟨by kernel_rfl, ⟨_, _, _, Tryz.underlying191⟩⟩
theorem ti192 : TI.ok Tryz.prog 192 ⟨.other, 1, 8, .nilFunc⟩ := ⟨by kernel_rfl, ⟨_, _, _, Tryz.underlying192⟩⟩
theorem ti195 : TI.ok Tryz.prog 195 ⟨.other, 1, 8, .nilFunc⟩ := ⟨by kernel_rfl, ⟨_, _, _, Tryz.underlying195⟩⟩
theorem ti197 : TI.ok Tryz.prog 197 ⟨.other, 1, 8, .nilFunc⟩ := ⟨by kernel_rfl, ⟨_, _, _, Tryz.underlying197⟩⟩
theorem ti198 : TI.ok Tryz.prog 198 ⟨.ptr, 1, 8, .pointer none⟩ := ⟨by kernel_rfl, ⟨_, Tryz.underlying198⟩⟩
theorem ti200 : TI.ok Tryz.prog 200 ⟨.other, 1, 8, .nilFunc⟩ := ⟨by kernel_rfl, ⟨_, _, _, Tryz.underlying200⟩⟩
theorem ti201 : TI.ok Tryz.prog 201 ⟨.other, 1, 8, .nilFunc⟩ := ⟨by kernel_rfl, ⟨_, _, _, Tryz.underlying201⟩⟩
theorem ti203 : TI.ok Tryz.prog 203 ⟨.other, 1, 8, .nilFunc⟩ := ⟨by kernel_rfl, ⟨_, _, _, Tryz.underlying203⟩⟩
theorem ti204 : TI.ok Tryz.prog 204 ⟨.other, 1, 8, .nilFunc⟩ := ⟨by kernel_rfl, ⟨_, _, _, Tryz.underlying204⟩⟩
theorem ti205 : TI.ok Tryz.prog 205 ⟨.ptr, 1, 8, .pointer none⟩ := ⟨by kernel_rfl, ⟨_, Tryz.underlying205⟩⟩
theorem ti207 : TI.ok Tryz.prog 207 ⟨.other, 1, 8, .nilFunc⟩ := ⟨by kernel_rfl, ⟨_, _, _, Tryz.underlying207⟩⟩
theorem ti208 : TI.ok Tryz.prog 208 ⟨.other, 1, 8, .nilFunc⟩ := ⟨by kernel_rfl, ⟨_, _, _, Tryz.underlying208⟩⟩
theorem ti209 : TI.ok Tryz.prog 209 ⟨.other, 1, 8, .nilFunc⟩ := ⟨by kernel_rfl, ⟨_, _, _, Tryz.underlying209⟩⟩
theorem ti213 : TI.ok Tryz.prog 213 ⟨.other, 1, 8, .nilFunc⟩ := ⟨by kernel_rfl, ⟨_, _, _, Tryz.underlying213⟩⟩
theorem ti215 : TI.ok Tryz.prog 215 ⟨.other, 1, 8, .nilFunc⟩ := ⟨by kernel_rfl, ⟨_, _, _, Tryz.underlying215⟩⟩
theorem ti216 : TI.ok Tryz.prog 216 ⟨.other, 1, 8, .nilFunc⟩ := ⟨by kernel_rfl, ⟨_, _, _, Tryz.underlying216⟩⟩
theorem ti217 : TI.ok Tryz.prog 217 ⟨.other, 1, 8, .nilFunc⟩ := ⟨by kernel_rfl, ⟨_, _, _, Tryz.underlying217⟩⟩
theorem ti218 : TI.ok Tryz.prog 218 ⟨.other, 1, 8, .nilFunc⟩ := ⟨by kernel_rfl, ⟨_, _, _, Tryz.underlying218⟩⟩
theorem ti221 : TI.ok Tryz.prog 221 ⟨.struct [(0, 17), (1, 17), (2, 17), (3, 9)], 4, 40, .agg #[.pointer none, .pointer none, .pointer none, .string ⟨#[]⟩]⟩ := ⟨by kernel_rfl, ⟨_, Tryz.underlying221, rfl⟩⟩
theorem ti222 : TI.ok Tryz.prog 222 ⟨.struct [(0, 17), (1, 17), (2, 17), (3, 9)], 4, 40, .agg #[.pointer none, .pointer none, .pointer none, .string ⟨#[]⟩]⟩ := ⟨by kernel_rfl, ⟨_, Tryz.underlying222, rfl⟩⟩
theorem ti224 : TI.ok Tryz.prog 224 ⟨.struct [(0, 223)], 0, 0, .agg #[]⟩ := ⟨by kernel_rfl, ⟨_, Tryz.underlying224, rfl⟩⟩
theorem ti225 : TI.ok Tryz.prog 225 ⟨.struct [(0, 223)], 0, 0, .agg #[]⟩ := ⟨by kernel_rfl, ⟨_, Tryz.underlying225, rfl⟩⟩
theorem ti226 : TI.ok Tryz.prog 226 ⟨.int .u8, 1, 1, .int .u8 0⟩ := ⟨by kernel_rfl, Tryz.underlying226⟩
theorem ti227 : TI.ok Tryz.prog 227 ⟨.int .u8, 1, 1, .int .u8 0⟩ := ⟨by kernel_rfl, Tryz.underlying227⟩
theorem ti228 : TI.ok Tryz.prog 228 ⟨.other, 1, 8, .nilFunc⟩ := ⟨by kernel_rfl, ⟨_, _, _, Tryz.underlying228⟩⟩
theorem ti229 : TI.ok Tryz.prog 229 ⟨.int .i32, 1, 4, .int .i32 0⟩ := ⟨by kernel_rfl, Tryz.underlying229⟩
theorem ti230 : TI.ok Tryz.prog 230 ⟨.int .i32, 1, 4, .int .i32 0⟩ := ⟨by kernel_rfl, Tryz.underlying230⟩
theorem ti231 : TI.ok Tryz.prog 231 ⟨.struct [(0, 12), (1, 12), (2, 152), (3, 226), (4, 5), (5, 5), (6, 227), (7, 228), (8, 205), (9, 229), (10, 230)], 11, 48, .agg #[.int .u64 0, .int .u64 0, .int .u32 0, .int .u8 0, .int .u8 0, .int .u8 0, .int .u8 0, .nilFunc, .pointer none, .int .i32 0, .int .i32 0]⟩ := ⟨by kernel_rfl, ⟨_, Tryz.underlying231, rfl⟩⟩
theorem ti232 : TI.ok Tryz.prog 232 ⟨.struct [(0, 12), (1, 12), (2, 152), (3, 226), (4, 5), (5, 5), (6, 227), (7, 228), (8, 205), (9, 229), (10, 230)], 11, 48, .agg #[.int .u64 0, .int .u64 0, .int .u32 0, .int .u8 0, .int .u8 0, .int .u8 0, .int .u8 0, .nilFunc, .pointer none, .int .i32 0, .int .i32 0]⟩ := ⟨by kernel_rfl, ⟨_, Tryz.underlying232, rfl⟩⟩
theorem tok : TOk Tryz.prog tt := .node (.node (.node (.node (.node (.node (.node (.leaf ti1) (.node (.leaf ti2) (.leaf ti3))) (.node (.leaf ti4) (.node (.leaf ti5) (.leaf ti6)))) (.node (.node (.leaf ti7) (.node (.leaf ti8) (.leaf ti9))) (.node (.leaf ti10) (.node (.leaf ti11) (.leaf ti12))))) (.node (.node (.node (.leaf ti13) (.node (.leaf ti14) (.leaf ti15))) (.node (.leaf ti16) (.node (.leaf ti17) (.leaf ti18)))) (.node (.node (.leaf ti19) (.node (.leaf ti20) (.leaf ti21))) (.node (.node (.leaf ti22) (.leaf ti23)) (.node (.leaf ti24) (.leaf ti25)))))) (.node (.node (.node (.node (.leaf ti26) (.node (.leaf ti27) (.leaf ti28))) (.node (.leaf ti29) (.node (.leaf ti31) (.leaf ti32)))) (.node (.node (.leaf ti33) (.node (.leaf ti34) (.leaf ti35))) (.node (.leaf ti36) (.node (.leaf ti38) (.leaf ti40))))) (.node (.node (.node (.leaf ti41) (.node (.leaf ti42) (.leaf ti44))) (.node (.leaf ti45) (.node (.leaf ti46) (.leaf ti48)))) (.node (.node (.leaf ti49) (.node (.leaf ti50) (.leaf ti51))) (.node (.node (.leaf ti52) (.leaf ti53)) (.node (.leaf ti54) (.leaf ti55))))))) (.node (.node (.node (.node (.node (.leaf ti56) (.node (.leaf ti58) (.leaf ti59))) (.node (.leaf ti60) (.node (.leaf ti61) (.leaf ti62)))) (.node (.node (.leaf ti63) (.node (.leaf ti64) (.leaf ti65))) (.node (.leaf ti66) (.node (.leaf ti68) (.leaf ti70))))) (.node (.node (.node (.leaf ti72) (.node (.leaf ti73) (.leaf ti74))) (.node (.leaf ti75) (.node (.leaf ti77) (.leaf ti78)))) (.node (.node (.leaf ti79) (.node (.leaf ti80) (.leaf ti81))) (.node (.node (.leaf ti82) (.leaf ti83)) (.node (.leaf ti84) (.leaf ti85)))))) (.node (.node (.node (.node (.leaf ti86) (.node (.leaf ti87) (.leaf ti88))) (.node (.leaf ti89) (.node (.leaf ti90) (.leaf ti91)))) (.node (.node (.leaf ti92) (.node (.leaf ti94) (.leaf ti95))) (.node (.leaf ti96) (.node (.leaf ti97) (.leaf ti98))))) (.node (.node (.node (.leaf ti99) (.node (.leaf ti101) (.leaf ti102))) (.node (.leaf ti103) (.node (.leaf ti104) (.leaf ti105)))) (.node (.node (.leaf ti106) (.node (.leaf ti108) (.leaf ti109))) (.node (.node (.leaf ti110) (.leaf ti111)) (.node (.leaf ti112) (.leaf ti113)))))))) (.node (.node (.node (.node (.node (.node (.leaf ti114) (.node (.leaf ti115) (.leaf ti117))) (.node (.leaf ti119) (.node (.leaf ti120) (.leaf ti121)))) (.node (.node (.leaf ti122) (.node (.leaf ti123) (.leaf ti124))) (.node (.leaf ti125) (.node (.leaf ti126) (.leaf ti127))))) (.node (.node (.node (.leaf ti128) (.node (.leaf ti129) (.leaf ti130))) (.node (.leaf ti131) (.node (.leaf ti132) (.leaf ti133)))) (.node (.node (.leaf ti134) (.node (.leaf ti135) (.leaf ti136))) (.node (.node (.leaf ti137) (.leaf ti138)) (.node (.leaf ti139) (.leaf ti140)))))) (.node (.node (.node (.node (.leaf ti142) (.node (.leaf ti143) (.leaf ti144))) (.node (.leaf ti145) (.node (.leaf ti147) (.leaf ti148)))) (.node (.node (.leaf ti149) (.node (.leaf ti150) (.leaf ti151))) (.node (.leaf ti152) (.node (.leaf ti153) (.leaf ti155))))) (.node (.node (.node (.leaf ti156) (.node (.leaf ti157) (.leaf ti158))) (.node (.leaf ti159) (.node (.leaf ti160) (.leaf ti161)))) (.node (.node (.leaf ti162) (.node (.leaf ti163) (.leaf ti164))) (.node (.node (.leaf ti165) (.leaf ti166)) (.node (.leaf ti167) (.leaf ti168))))))) (.node (.node (.node (.node (.node (.leaf ti169) (.node (.leaf ti170) (.leaf ti171))) (.node (.leaf ti172) (.node (.leaf ti173) (.leaf ti174)))) (.node (.node (.leaf ti175) (.node (.leaf ti176) (.leaf ti177))) (.node (.leaf ti178) (.node (.leaf ti179) (.leaf ti180))))) (.node (.node (.node (.leaf ti181) (.node (.leaf ti182) (.leaf ti183))) (.node (.leaf ti185) (.node (.leaf ti186) (.leaf ti187)))) (.node (.node (.leaf ti188) (.node (.leaf ti189) (.leaf ti190))) (.node (.node (.leaf ti191) (.leaf ti192)) (.node (.leaf ti195) (.leaf ti197)))))) (.node (.node (.node (.node (.leaf ti198) (.node (.leaf ti200) (.leaf ti201))) (.node (.leaf ti203) (.node (.leaf ti204) (.leaf ti205)))) (.node (.node (.leaf ti207) (.node (.leaf ti208) (.leaf ti209))) (.node (.leaf ti213) (.node (.leaf ti215) (.leaf ti216))))) (.node (.node (.node (.leaf ti217) (.node (.leaf ti218) (.leaf ti221))) (.node (.leaf ti222) (.node (.leaf ti224) (.leaf ti225)))) (.node (.node (.leaf ti226) (.node (.leaf ti227) (.leaf ti228))) (.node (.node (.leaf ti229) (.leaf ti230)) (.node (.leaf ti231) (.leaf ti232))))))))
end Go.Proofs.YtfeegacmmfgjfaaGreatDoorX

/-!  The framework, part P: a region whose order is drawn, by a plan that the kernel checks. -/
set_option linter.unusedVariables false
namespace Go.Proofs.YtfeegacmmfgjfaaGreatDoorX
open Go Go.RowKit
variable {P : Program} {τ : TT} {n : Nat}
/-- What is taken: one operation that computes only, or each of those that are ready. -/
inductive Plan where
  | done
  | one (i : Nat) (r : Plan)
  | alt (i : Nat) (r : Plan) (rest : Plan)
  | nil
def Plan.ok (ops : Array Oper) : Plan → Nat → Option (List Nat) → Array Bool → Bool
  | .done, _, none, L => (Region.ready .any ops L).isEmpty
  | .one i r, f + 1, none, L => (Region.ready .any ops L).contains i && (match ops[i]? with | some o => isPure o.op | none => false) && Region.free .any ops L i && r.ok ops f none (L.setIfInBounds i true)
  | .alt i r rest, f + 1, none, L => (match Region.ready .any ops L with | [] => false | j :: l => j == i && r.ok ops f none (L.setIfInBounds i true) && rest.ok ops (f + 1) (some l) L)
  | .alt i r rest, f + 1, some l, L => (match l with | [] => false | j :: l => j == i && r.ok ops f none (L.setIfInBounds i true) && rest.ok ops (f + 1) (some l) L)
  | .nil, _, some l, _ => l.isEmpty
  | _, _, _, _ => false
def oget : List Oper → Nat → Option Oper
  | [], _ => none
  | o :: _, 0 => some o
  | _ :: r, i + 1 => oget r i
theorem oget_eq (l : List Oper) (i : Nat) : oget l i = l[i]? := by
  induction l generalizing i with
  | nil => simp [oget]
  | cons v r ih => cases i <;> simp [oget, ih]
noncomputable def xplan (P : Program) (τ : TT) (n : Nat) (ops : Array Oper) (Q : XQ) : Plan → List Deferred → Env → World → Prop
  | .done, D, E, w => Q .normal D E w
  | .one i r, D, E, w => (match oget ops.toList i with
    | some o => xguard n ops.toList o E (fun E => xop P τ true o.op o.type E w fun v w' => put n o.dst v E fun E => xplan P τ n ops Q r D E w) (fun E => xplan P τ n ops Q r D E w)
    | none => False)
  | .alt i r rest, D, E, w => (match oget ops.toList i with
    | some o => xguard n ops.toList o E (fun E => xexec P τ n Q o D E w fun D E w => xplan P τ n ops Q r D E w) (fun E => xplan P τ n ops Q r D E w)
    | none => False) ∧ xplan P τ n ops Q rest D E w
  | .nil, D, E, w => True
theorem xplan_sound (hτ : TOk P τ) {ops : Array Oper} (hs : Region.noSelect ops = true) {Q : XQ} : ∀ (p : Plan) (f : Nat) (L : Array Bool) (D : List Deferred) (E : Env) (w : World), xplan P τ n ops Q p D E w →
    (p.ok ops f none L = true → ∀ a : Act, Fits n E a.tmps → a.defers = D → wpAny P .any ops (lift n Q) f L a w) ∧
    ∀ l f', f = f' + 1 → p.ok ops f (some l) L = true → ∀ i ∈ l, ∀ a : Act, Fits n E a.tmps → a.defers = D → wpOp P ops (lift n Q) i (wpAny P .any ops (lift n Q) f' (L.setIfInBounds i true)) a w := by
  intro p
  induction p with
  | done =>
    intro f L D E w h
    refine ⟨fun hok a hf hd => ?_, fun l f' _ hok => by simp [Plan.ok] at hok⟩
    have hr : Region.ready .any ops L = [] := by simpa [Plan.ok] using hok
    exact wpAny_done hr (lift_mk hf (by rw [hd]; exact h)) _
  | nil =>
    intro f L D E w h
    refine ⟨fun hok => by cases f <;> simp [Plan.ok] at hok, fun l f' _ hok i hi => ?_⟩
    have : l = [] := by simpa [Plan.ok] using hok
    subst this; simp at hi
  | one i r ih =>
    intro f L D E w h
    cases f with
    | zero => exact ⟨fun hok => by simp [Plan.ok] at hok, fun l f' he => by omega⟩
    | succ f =>
      refine ⟨fun hok a hf hd => ?_, fun l f' _ hok => by simp [Plan.ok] at hok⟩
      simp only [Plan.ok, Bool.and_eq_true] at hok
      obtain ⟨⟨⟨h1, h2⟩, h3⟩, h4⟩ := hok
      simp only [xplan, oget_eq] at h
      split at h
      · rename_i o ho
        rw [Array.getElem?_toList] at ho
        rw [ho] at h2
        have hQ : ∀ (v : Value) (c : List PanicEntry) (a : Act) (w : World), lift n Q (.panic c) (a.put o.dst v) w → lift n Q (.panic c) a w := by
          rintro v c a w ⟨E, _, hq⟩
          exact ⟨E, .inr trivial, by rw [put_defers] at hq; exact hq⟩
        rcases xguard_out h hf with ⟨hw, E1, hf1, h5⟩ | ⟨hw, E1, hf1, h5⟩
        · obtain ⟨v, hK, hrun⟩ := pure_run hτ h2 h5 hf1
          obtain ⟨E2, hK2, hf2⟩ := put_out hK hf1
          exact wpAny_take ho hs h3 h1 (hQ v) (.inl ⟨hw, hrun⟩) ((ih f _ D E2 w hK2).1 h4 _ hf2 (by rw [put_defers]; exact hd))
        · exact wpAny_take ho hs h3 h1 (hQ undef) (.inr ⟨hw, rfl⟩) ((ih f _ D E1 w h5).1 h4 _ hf1 (by rw [put_defers]; exact hd))
      · exact h.elim
  | alt i r rest ih ihr =>
    intro f L D E w h
    cases f with
    | zero => exact ⟨fun hok => by simp [Plan.ok] at hok, fun l f' he => by omega⟩
    | succ f =>
      obtain ⟨h, hrest⟩ := h
      have one : r.ok ops f none (L.setIfInBounds i true) = true → ∀ a : Act, Fits n E a.tmps → a.defers = D → wpOp P ops (lift n Q) i (wpAny P .any ops (lift n Q) f (L.setIfInBounds i true)) a w := by
        intro hok a hf hd
        simp only [oget_eq] at h
        split at h
        · rename_i o ho
          rw [Array.getElem?_toList] at ho
          unfold wpOp
          rw [ho]
          simp only []
          rcases xguard_out h hf with ⟨hw, E1, hf1, h1⟩ | ⟨hw, E1, hf1, h1⟩
          · rw [if_pos hw]
            exact .inl (xexec_sound hτ h1 hf1 hd fun D' E' w' a' hx hf' hd' => (ih f _ D' E' w' hx).1 hok a' hf' hd')
          · rw [if_neg (by rw [hw]; decide)]
            exact (ih f _ D E1 w h1).1 hok _ hf1 (by rw [put_defers]; exact hd)
        · exact h.elim
      have some_ : ∀ l, (match l with | [] => false | j :: l => j == i && r.ok ops f none (L.setIfInBounds i true) && rest.ok ops (f + 1) (some l) L) = true → ∀ j ∈ l, ∀ a : Act, Fits n E a.tmps → a.defers = D → wpOp P ops (lift n Q) j (wpAny P .any ops (lift n Q) f (L.setIfInBounds j true)) a w := by
        intro l hok j hj a hf hd
        cases l with
        | nil => simp at hj
        | cons k l =>
          simp only [Bool.and_eq_true, beq_iff_eq] at hok
          obtain ⟨⟨rfl, h2⟩, h3⟩ := hok
          rcases List.mem_cons.1 hj with rfl | hj
          · exact one h2 a hf hd
          · exact (ihr (f + 1) L D E w hrest).2 l f rfl h3 j hj a hf hd
      refine ⟨fun hok a hf hd => ?_, fun l f' he hok j hj a hf hd => ?_⟩
      · simp only [Plan.ok] at hok
        have hne : Region.ready .any ops L ≠ [] := by intro e; rw [e] at hok; simp at hok
        exact wpAny_all rfl hne fun j hj => some_ _ hok j hj a hf hd
      · obtain rfl : f = f' := by omega
        simp only [Plan.ok] at hok
        exact some_ l hok j hj a hf hd
theorem draw_plan (hτ : TOk P τ) (hm : P.follows .mixedOrders = true) (p : Plan) {id : Nat} {ops : Array Oper} {Q : XQ} {D : List Deferred} {E : Env} {w : World} (hs : Region.noSelect ops = true)
    (hok : p.ok ops ops.size none (Array.replicate ops.size false) = true) (h : xplan P τ n ops Q p D E w.drew) : DrawP P τ n id ops Q D E w := by
  refine ⟨⟨?_⟩⟩
  intro a hf hd
  exact wp_region_any hm ((xplan_sound hτ hs p _ _ D E _ h).1 hok a hf hd)
/-! ## A struct in a block of its own -/
theorem store_blk {w : World} {b : Nat} {cs : Array Value} {t : TypeId} {vs : List Value} (h : w.heap[b]? = some (.cells cs t (0, 0))) (hl : vs.length = cs.size) (h1 : ∀ v ∈ vs, v.oneCell' = true) :
    ∃ w', (storeCells ⟨b, 0, none⟩ vs).run P w = .ok () w' ∧ w'.heap[b]? = some (.cells vs.toArray t (0, 0)) ∧ Chg (fun i => i = b) w w' := by
  refine ⟨_, run_storeCells_from b t vs 0 cs w h (by omega) h1, ?_, ?_⟩
  · have hlt := (Array.getElem?_eq_some_iff.1 h).1
    have hv := (Array.getElem?_eq_some_iff.1 h).2
    simp [World.setRow, Array.getElem?_modify, h]
  · refine ⟨rfl, rfl, rfl, by simp [World.setRow], fun k hk hn => ?_⟩
    simp only [World.setRow, Array.getElem?_modify]
    rw [if_neg (fun e => hn e.symm)]
/-! ## A loop with a measure of its own -/
def ghQ (id : Nat) (outs keep slots : List Nat) (fs : List Value) (I : Nat → List Value → World → Prop) (J : List Value → World → Prop) (m : Nat) (D : List Deferred) (Q : XQ) : XQ
  | .normal, D', E', w' => gets E' keep fun fs' => gets E' slots fun vs' => (D' = D ∧ fs' = fs) ∧ ∃ m', m' < m ∧ I m' vs' w'
  | .exit j, D', E', w' => (match Nat.beq j id with
    | true => gets E' keep fun fs' => gets E' outs fun vs' => (D' = D ∧ fs' = fs) ∧ J vs' w'
    | false => Q (.exit j) D' E' w')
  | e, D', E', w' => Q e D' E' w'
theorem loop_gh (hτ : TOk P τ) (id : Nat) (slots keep outs : List Nat) (I : Nat → List Value → World → Prop) (J : List Value → World → Prop) {c : Code} {Q : XQ} {D : List Deferred} {E : Env} {w : World}
    (h : gets E keep fun fs => (gets E slots fun vs => ∃ m, I m vs w) ∧ (∀ m vs w, I m vs w → xcode P τ n c (ghQ id outs keep slots fs I J m D Q) D (zipE slots vs (zipE keep fs [])) w) ∧
      ∀ vs w, J vs w → Q (.exit id) D (zipE outs vs (zipE keep fs [])) w) : LoopP P τ n c Q D E w := by
  refine ⟨⟨?_⟩⟩
  intro a hf hd
  obtain ⟨fs', ⟨h1, hr, hx⟩, hl2, hz2⟩ := gets_out keep _ h
  obtain ⟨vs, ⟨m0, hI⟩, hl, hz⟩ := gets_out slots _ h1
  have hF := hz n a.tmps _ hf (hz2 n a.tmps [] hf hf.nil')
  refine wp_loop_ghost (fun m a' w' => ∃ vs', I m vs' w' ∧ Fits n (zipE slots vs' (zipE keep fs' [])) a'.tmps ∧ a'.defers = D) _ ⟨vs, hI, hF, hd⟩ ?_
  rintro m a1 w1 ⟨vs1, hI1, hf1, hd1⟩
  refine wp_mono (xcode_sound hτ c _ D _ w1 (hr m vs1 w1 hI1) a1 hf1 hd1) ?_
  rintro e a2 w2 ⟨E2, hf2, h2⟩
  cases e with
  | normal =>
    have hf2 := hf2.resolve_right (fun h => h)
    obtain ⟨fs2, h3, _, hz3⟩ := gets_out keep _ h2
    obtain ⟨vs2, ⟨⟨hD, rfl⟩, m', hlt, hI2⟩, _, hz4⟩ := gets_out slots _ h3
    exact ⟨m', hlt, vs2, hI2, hz4 n a2.tmps _ hf2 (hz3 n a2.tmps [] hf2 hf2.nil'), hD⟩
  | exit j =>
    have hf3 := hf2.resolve_right (fun h => h)
    simp only [ghQ] at h2
    split at h2
    · rename_i hb
      obtain rfl := Nat.eq_of_beq_eq_true hb
      obtain ⟨fs2, h3, _, hz3⟩ := gets_out keep _ h2
      obtain ⟨vs2, ⟨⟨hD, rfl⟩, hJ⟩, _, hz4⟩ := gets_out outs _ h3
      exact lift_mk (hz4 n a2.tmps _ hf3 (hz3 n a2.tmps [] hf3 hf3.nil')) (by rw [hD]; exact hx vs2 w2 hJ)
    · exact ⟨E2, hf2, h2⟩
  | _ => exact ⟨E2, hf2, h2⟩
def ones : List Nat → Plan → Plan
  | [], p => p
  | i :: r, p => .one i (ones r p)
end Go.Proofs.YtfeegacmmfgjfaaGreatDoorX

/-!  The framework, part H: a region whose order is drawn: what only reads is taken first, in every world of a class; of the others every order. -/
set_option linter.unusedVariables false
namespace Go.Proofs.YtfeegacmmfgjfaaGreatDoorX
open Go Go.RowKit
variable {P : Program} {τ : TT} {n : Nat}
def Plan.okH (ops : Array Oper) : Plan → Nat → Option (List Nat) → Array Bool → Bool
  | .done, _, none, L => (Region.ready .any ops L).isEmpty
  | .one i r, f + 1, none, L => (Region.ready .any ops L).contains i && (match ops[i]? with | some o => isRead o.op | none => false) && Region.free .any ops L i && r.okH ops f none (L.setIfInBounds i true)
  | .alt i r rest, f + 1, none, L => (match Region.ready .any ops L with | [] => false | j :: l => j == i && r.okH ops f none (L.setIfInBounds i true) && rest.okH ops (f + 1) (some l) L)
  | .alt i r rest, f + 1, some l, L => (match l with | [] => false | j :: l => j == i && r.okH ops f none (L.setIfInBounds i true) && rest.okH ops (f + 1) (some l) L)
  | .nil, _, some l, _ => l.isEmpty
  | _, _, _, _ => false
noncomputable def xread (P : Program) (τ : TT) (S : World → Prop) (o : Oper) (E : Env) (K : Value → Prop) : Prop :=
  match o.op with
  | .load t x => (match ev E x with
    | some (.pointer (some a)) => (match tlook τ t with
      | some i => (match i.td with
        | .struct _ => ∃ cs : List Value, cs.length = i.size ∧ (∀ w, S w → CellsAt w a cs) ∧ K (.agg cs.toArray)
        | _ => ∃ v, (∀ w, S w → w.cell? a = some v) ∧ K v)
      | none => False)
    | _ => False)
  | op => (match isPure op with
    | true => xop P τ true op o.type E default fun v _ => K v
    | false => False)
theorem xread_out (hτ : TOk P τ) {S : World → Prop} {o : Oper} {E : Env} {K : Value → Prop} (h : xread P τ S o E K) {a : Act} (hf : Fits n E a.tmps) : ∃ v, K v ∧ ∀ w, S w → (execOp a.eval o).run P w = .ok (.value v) w := by
  unfold xread at h
  split at h
  · rename_i t x hop
    split at h
    · rename_i ad hx
      split at h
      · rename_i i hi
        have ht := hτ t i hi
        split at h
        · rename_i fs hfs
          obtain ⟨cs, hl, hc, hK⟩ := h
          refine ⟨_, hK, fun w hw => ?_⟩
          have := loadVar_agg (P := P) ht (by rw [hfs]; rfl) hl (hc w hw)
          unfold execOp
          rw [hop]
          simp [Instr.loadAt, Instr.sureAddr, hf.eval hx, this]
        · rename_i hn
          obtain ⟨v, hc, hK⟩ := h
          refine ⟨_, hK, fun w hw => ?_⟩
          have hag : i.td.agg = false := by cases htd : i.td <;> simp_all [TD.agg]
          have := loadVar_one (P := P) ht hag (hc w hw)
          unfold execOp
          rw [hop]
          simp [Instr.loadAt, Instr.sureAddr, hf.eval hx, this]
      · exact h.elim
    · exact h.elim
  · split at h
    · rename_i hp
      obtain ⟨v, hK, hr⟩ := pure_run hτ hp h hf
      exact ⟨v, hK, fun w _ => hr w⟩
    · exact h.elim
noncomputable def xplanH (P : Program) (τ : TT) (n : Nat) (ops : Array Oper) (S : World → Prop) (Q : XQ) : Plan → List Deferred → Env → World → Prop
  | .done, D, E, w => Q .normal D E w
  | .one i r, D, E, w => (match oget ops.toList i with
    | some o => xguard n ops.toList o E (fun E => xread P τ S o E fun v => put n o.dst v E fun E => xplanH P τ n ops S Q r D E w) (fun E => xplanH P τ n ops S Q r D E w)
    | none => False)
  | .alt i r rest, D, E, w => (match oget ops.toList i with
    | some o => xguard n ops.toList o E (fun E => xexec P τ n Q o D E w fun D E w => S w ∧ xplanH P τ n ops S Q r D E w) (fun E => xplanH P τ n ops S Q r D E w)
    | none => False) ∧ xplanH P τ n ops S Q rest D E w
  | .nil, D, E, w => True
theorem xplanH_sound (hτ : TOk P τ) {ops : Array Oper} {S : World → Prop} (hs : Region.noSelect ops = true) {Q : XQ} : ∀ (p : Plan) (f : Nat) (L : Array Bool) (D : List Deferred) (E : Env) (w : World), S w → xplanH P τ n ops S Q p D E w →
    (p.okH ops f none L = true → ∀ a : Act, Fits n E a.tmps → a.defers = D → wpAnyH P .any ops (lift n Q) S f L a w) ∧
    ∀ l f', f = f' + 1 → p.okH ops f (some l) L = true → ∀ i ∈ l, ∀ a : Act, Fits n E a.tmps → a.defers = D → wpOp P ops (lift n Q) i (fun a' w' => S w' ∧ wpAnyH P .any ops (lift n Q) S f' (L.setIfInBounds i true) a' w') a w := by
  intro p
  induction p with
  | done =>
    intro f L D E w hS h
    refine ⟨fun hok a hf hd => ?_, fun l f' _ hok => by simp [Plan.okH] at hok⟩
    have hr : Region.ready .any ops L = [] := by simpa [Plan.okH] using hok
    exact wpAnyH_done hr (lift_mk hf (by rw [hd]; exact h)) _
  | nil =>
    intro f L D E w hS h
    refine ⟨fun hok => by cases f <;> simp [Plan.okH] at hok, fun l f' _ hok i hi => ?_⟩
    have : l = [] := by simpa [Plan.okH] using hok
    subst this; simp at hi
  | one i r ih =>
    intro f L D E w hS h
    cases f with
    | zero => exact ⟨fun hok => by simp [Plan.okH] at hok, fun l f' he => by omega⟩
    | succ f =>
      refine ⟨fun hok a hf hd => ?_, fun l f' _ hok => by simp [Plan.okH] at hok⟩
      simp only [Plan.okH, Bool.and_eq_true] at hok
      obtain ⟨⟨⟨h1, h2⟩, h3⟩, h4⟩ := hok
      simp only [xplanH, oget_eq] at h
      split at h
      · rename_i o ho
        rw [Array.getElem?_toList] at ho
        have hQ : ∀ (v : Value) (c : List PanicEntry) (a : Act) (w : World), lift n Q (.panic c) (a.put o.dst v) w → lift n Q (.panic c) a w := by
          rintro v c a w ⟨E, _, hq⟩
          exact ⟨E, .inr trivial, by rw [put_defers] at hq; exact hq⟩
        rcases xguard_out h hf with ⟨hw, E1, hf1, h5⟩ | ⟨hw, E1, hf1, h5⟩
        · obtain ⟨v, hK, hrun⟩ := xread_out hτ h5 hf1
          obtain ⟨E2, hK2, hf2⟩ := put_out hK hf1
          exact wpAnyH_take ho hs h3 h1 (hQ v) (.inl ⟨hw, hrun⟩) hS ((ih f _ D E2 w hS hK2).1 h4 _ hf2 (by rw [put_defers]; exact hd))
        · exact wpAnyH_take ho hs h3 h1 (hQ undef) (.inr ⟨hw, rfl⟩) hS ((ih f _ D E1 w hS h5).1 h4 _ hf1 (by rw [put_defers]; exact hd))
      · exact h.elim
  | alt i r rest ih ihr =>
    intro f L D E w hS h
    cases f with
    | zero => exact ⟨fun hok => by simp [Plan.okH] at hok, fun l f' he => by omega⟩
    | succ f =>
      obtain ⟨h, hrest⟩ := h
      have one : r.okH ops f none (L.setIfInBounds i true) = true → ∀ a : Act, Fits n E a.tmps → a.defers = D → wpOp P ops (lift n Q) i (fun a' w' => S w' ∧ wpAnyH P .any ops (lift n Q) S f (L.setIfInBounds i true) a' w') a w := by
        intro hok a hf hd
        simp only [oget_eq] at h
        split at h
        · rename_i o ho
          rw [Array.getElem?_toList] at ho
          unfold wpOp
          rw [ho]
          simp only []
          rcases xguard_out h hf with ⟨hw, E1, hf1, h1⟩ | ⟨hw, E1, hf1, h1⟩
          · rw [if_pos hw]
            exact .inl (xexec_sound hτ h1 hf1 hd fun D' E' w' a' hx hf' hd' => ⟨hx.1, (ih f _ D' E' w' hx.1 hx.2).1 hok a' hf' hd'⟩)
          · rw [if_neg (by rw [hw]; decide)]
            exact ⟨hS, (ih f _ D E1 w hS h1).1 hok _ hf1 (by rw [put_defers]; exact hd)⟩
        · exact h.elim
      have some_ : ∀ l, (match l with | [] => false | j :: l => j == i && r.okH ops f none (L.setIfInBounds i true) && rest.okH ops (f + 1) (some l) L) = true → ∀ j ∈ l, ∀ a : Act, Fits n E a.tmps → a.defers = D → wpOp P ops (lift n Q) j (fun a' w' => S w' ∧ wpAnyH P .any ops (lift n Q) S f (L.setIfInBounds j true) a' w') a w := by
        intro l hok j hj a hf hd
        cases l with
        | nil => simp at hj
        | cons k l =>
          simp only [Bool.and_eq_true, beq_iff_eq] at hok
          obtain ⟨⟨rfl, h2⟩, h3⟩ := hok
          rcases List.mem_cons.1 hj with rfl | hj
          · exact one h2 a hf hd
          · exact (ihr (f + 1) L D E w hS hrest).2 l f rfl h3 j hj a hf hd
      refine ⟨fun hok a hf hd => ?_, fun l f' he hok j hj a hf hd => ?_⟩
      · simp only [Plan.okH] at hok
        have hne : Region.ready .any ops L ≠ [] := by intro e; rw [e] at hok; simp at hok
        exact wpAnyH_all rfl hne fun j hj => some_ _ hok j hj a hf hd
      · obtain rfl : f = f' := by omega
        simp only [Plan.okH] at hok
        exact some_ l hok j hj a hf hd
theorem draw_held (hτ : TOk P τ) (hm : P.follows .mixedOrders = true) (S : World → Prop) (p : Plan) {id : Nat} {ops : Array Oper} {Q : XQ} {D : List Deferred} {E : Env} {w : World} (hs : Region.noSelect ops = true)
    (hok : p.okH ops ops.size none (Array.replicate ops.size false) = true) (hS : S w.drew) (h : xplanH P τ n ops S Q p D E w.drew) : DrawP P τ n id ops Q D E w := by
  refine ⟨⟨?_⟩⟩
  intro a hf hd
  exact wp_region_held hm ((xplanH_sound hτ hs p _ _ D E _ hS h).1 hok a hf hd)
end Go.Proofs.YtfeegacmmfgjfaaGreatDoorX

/-!  Plain: strings of digits. -/
set_option linter.unusedVariables false
namespace Go.Proofs.YtfeegacmmfgjfaaGreatDoorM
def isDig (c : UInt8) : Bool := decide (48 ≤ c.toNat) && decide (c.toNat ≤ 57)
/-- Is a string a number of at most 1000 digits? -/
def isNat (a : List UInt8) : Bool := !a.isEmpty && decide (a.length ≤ 1000) && !(decide (1 < a.length) && decide ((a.getD 0 0).toNat = 48)) && a.all isDig
theorem isNat_long {a : List UInt8} (h : ¬ a.length ≤ 1000) : isNat a = false := by unfold isNat; rw [decide_eq_false h]; simp
theorem isNat_zero {a : List UInt8} (h1 : 1 < a.length) (h : (a.getD 0 0).toNat = 48) : isNat a = false := by unfold isNat; rw [decide_eq_true h1, decide_eq_true h]; simp
theorem isNat_not {a : List UInt8} {i : Nat} (hi : i < a.length) (h : isDig (a.getD i 0) = false) : isNat a = false := by
  have : a.all isDig = false := by
    rw [List.all_eq_false]
    exact ⟨a[i], List.getElem_mem hi, by rw [List.getD_eq_getElem?_getD, List.getElem?_eq_getElem hi] at h; simpa using h⟩
  unfold isNat; rw [this]; simp
theorem isNat_yes {a : List UInt8} (h0 : a ≠ []) (h : a.length ≤ 1000) (h1 : 1 < a.length → (a.getD 0 0).toNat ≠ 48) (h2 : ∀ i, i < a.length → isDig (a.getD i 0) = true) : isNat a = true := by
  have h3 : a.all isDig = true := by
    rw [List.all_eq_true]
    intro x hx
    obtain ⟨i, hi, rfl⟩ := List.getElem_of_mem hx
    have := h2 i hi
    rwa [List.getD_eq_getElem?_getD, List.getElem?_eq_getElem hi] at this
  unfold isNat
  rw [h3, decide_eq_true h]
  by_cases h4 : 1 < a.length
  · rw [decide_eq_false (h1 h4)]; simpa using h0
  · rw [decide_eq_false h4]; simpa using h0
end Go.Proofs.YtfeegacmmfgjfaaGreatDoorM

/-!  Plain: natural numbers as digits and as blocks of nine digits. -/
set_option linter.unusedVariables false
namespace Go.Proofs.YtfeegacmmfgjfaaGreatDoorM

/-! ## Lists without the zeros at their end -/
def tlen : List Nat → Nat
  | [] => 0
  | x :: r => match tlen r with
    | 0 => if x = 0 then 0 else 1
    | k + 1 => k + 2
def trimL (xs : List Nat) : List Nat := xs.take (tlen xs)
theorem tlen_le (xs : List Nat) : tlen xs ≤ xs.length := by
  induction xs with
  | nil => simp [tlen]
  | cons x r ih =>
    simp only [tlen, List.length_cons]
    split
    · split <;> omega
    · omega
theorem tlen_eq : ∀ {xs : List Nat} {m : Nat}, m ≤ xs.length → (∀ j, m ≤ j → j < xs.length → xs.getD j 0 = 0) → (m = 0 ∨ xs.getD (m - 1) 0 ≠ 0) → tlen xs = m
  | [], m, hm, _, _ => by simp at hm; simp [tlen, hm]
  | x :: r, m, hm, hz, hl => by
    simp only [List.length_cons] at hm hz
    cases m with
    | zero =>
      have h1 : tlen r = 0 := tlen_eq (m := 0) (Nat.zero_le _) (fun j _ hj => by have := hz (j + 1) (by omega) (by omega); simpa using this) (.inl rfl)
      have h2 : x = 0 := by have := hz 0 (by omega) (by omega); simpa using this
      simp [tlen, h1, h2]
    | succ m =>
      have h1 : tlen r = m := tlen_eq (m := m) (by omega) (fun j hj hj2 => by have := hz (j + 1) (by omega) (by omega); simpa using this) (by
        cases m with
        | zero => exact .inl rfl
        | succ m => exact .inr (by
          rcases hl with hl | hl
          · omega
          · simpa using hl))
      simp only [tlen, h1]
      cases m with
      | zero =>
        rcases hl with hl | hl
        · omega
        · have : x ≠ 0 := by simpa using hl
          simp [this]
      | succ m => rfl
theorem trimL_eq {xs : List Nat} {m : Nat} (hm : m ≤ xs.length) (hz : ∀ j, m ≤ j → j < xs.length → xs.getD j 0 = 0) (hl : m = 0 ∨ xs.getD (m - 1) 0 ≠ 0) : trimL xs = xs.take m := by
  unfold trimL; rw [tlen_eq hm hz hl]

/-! ## Blocks -/
def valB : List Nat → Nat
  | [] => 0
  | x :: r => x + 1000000000 * valB r
def blkF : Nat → Nat → List Nat
  | 0, _ => []
  | k + 1, n => if n = 0 then [] else (n % 1000000000) :: blkF k (n / 1000000000)
def blk (n : Nat) : List Nat := blkF n n
theorem blkF_eq : ∀ (k j n : Nat), n ≤ k → n ≤ j → blkF k n = blkF j n
  | 0, j, n, hk, hj => by
    obtain rfl : n = 0 := by omega
    cases j <;> simp [blkF]
  | k + 1, 0, n, hk, hj => by
    obtain rfl : n = 0 := by omega
    simp [blkF]
  | k + 1, j + 1, n, hk, hj => by
    simp only [blkF]
    split
    · rfl
    · rw [blkF_eq k j _ (by omega) (by omega)]
theorem blk_zero : blk 0 = [] := rfl
theorem blk_pos {n : Nat} (h : n ≠ 0) : blk n = (n % 1000000000) :: blk (n / 1000000000) := by
  unfold blk
  obtain ⟨k, rfl⟩ : ∃ k, n = k + 1 := ⟨n - 1, by omega⟩
  simp only [blkF, h, if_false]
  rw [blkF_eq k ((k + 1) / 1000000000) _ (by omega) (by omega)]
theorem valB_blk (n : Nat) : valB (blk n) = n := by
  induction n using Nat.strongRecOn with
  | _ n ih =>
    by_cases h : n = 0
    · subst h; rfl
    · rw [blk_pos h, valB, ih _ (by omega)]; omega
theorem blk_lt {n x : Nat} (hx : x ∈ blk n) : x < 1000000000 := by
  induction n using Nat.strongRecOn with
  | _ n ih =>
    by_cases h : n = 0
    · subst h; simp [blk_zero] at hx
    · rw [blk_pos h] at hx
      rcases List.mem_cons.1 hx with rfl | hx
      · omega
      · exact ih _ (by omega) hx
theorem blk_nil {n : Nat} : blk n = [] ↔ n = 0 := by
  constructor
  · intro h
    have := valB_blk n
    rw [h] at this
    simpa [valB] using this.symm
  · rintro rfl; rfl
theorem trim_cons (x : Nat) (r : List Nat) : trimL (x :: r) = if tlen r = 0 ∧ x = 0 then [] else x :: trimL r := by
  unfold trimL
  simp only [tlen]
  cases h : tlen r with
  | zero => by_cases hx : x = 0 <;> simp [hx]
  | succ k => simp
theorem tlen_zero {xs : List Nat} (h : tlen xs = 0) : valB xs = 0 := by
  induction xs with
  | nil => rfl
  | cons x r ih =>
    simp only [tlen] at h
    split at h
    · rename_i h0
      split at h
      · rename_i hx; simp [valB, hx, ih h0]
      · omega
    · omega
theorem tlen_pos {xs : List Nat} (h : tlen xs ≠ 0) : valB xs ≠ 0 := by
  induction xs with
  | nil => simp [tlen] at h
  | cons x r ih =>
    simp only [tlen] at h
    simp only [valB]
    split at h
    · split at h
      · exact absurd rfl h
      · omega
    · rename_i k hk
      have := ih (by omega)
      omega
/-- Blocks without zeros at their end are those of their value. -/
theorem trim_blk {xs : List Nat} (h : ∀ x ∈ xs, x < 1000000000) : trimL xs = blk (valB xs) := by
  induction xs with
  | nil => rfl
  | cons x r ih =>
    have hx := h x (by simp)
    have ihr := ih fun y hy => h y (by simp [hy])
    rw [trim_cons]
    split
    · rename_i h0
      rw [valB, tlen_zero h0.1, h0.2]
      rfl
    · rename_i h0
      have hne : valB (x :: r) ≠ 0 := by
        simp only [valB]
        by_cases ht : tlen r = 0
        · have : x ≠ 0 := fun e => h0 ⟨ht, e⟩; omega
        · have := tlen_pos ht; omega
      rw [blk_pos hne, ihr]
      simp only [valB]
      rw [show (x + 1000000000 * valB r) % 1000000000 = x by omega, show (x + 1000000000 * valB r) / 1000000000 = valB r by omega]
theorem valB_append (a b : List Nat) : valB (a ++ b) = valB a + 1000000000 ^ a.length * valB b := by
  induction a with
  | nil => simp [valB]
  | cons x r ih => simp only [List.cons_append, valB, ih, List.length_cons, Nat.pow_succ, Nat.mul_add]; rw [Nat.mul_comm (1000000000 ^ r.length) 1000000000, Nat.mul_assoc]; omega
theorem valB_lt {xs : List Nat} (h : ∀ x ∈ xs, x < 1000000000) : valB xs < 1000000000 ^ xs.length := by
  induction xs with
  | nil => simp [valB]
  | cons x r ih =>
    have hx := h x (by simp)
    have := ih fun y hy => h y (by simp [hy])
    simp only [valB, List.length_cons, Nat.pow_succ]
    omega
theorem valB_trim (xs : List Nat) : valB (trimL xs) = valB xs := by
  induction xs with
  | nil => rfl
  | cons x r ih =>
    rw [trim_cons]
    split
    · rename_i h0; simp [valB, h0.2, tlen_zero h0.1]
    · simp [valB, ih]

/-! ## Digits -/
def dig (c : UInt8) : Nat := c.toNat - 48
def dval (a : List UInt8) : Nat := a.foldl (fun n c => 10 * n + dig c) 0
theorem dval_foldl (a : List UInt8) (n : Nat) : a.foldl (fun n c => 10 * n + dig c) n = n * 10 ^ a.length + dval a := by
  induction a generalizing n with
  | nil => simp [dval]
  | cons c r ih =>
    have h1 := ih (10 * n + dig c)
    have h2 : dval (c :: r) = dig c * 10 ^ r.length + dval r := by
      show r.foldl _ (10 * 0 + dig c) = _
      rw [ih]; simp
    rw [List.foldl_cons, h1, h2, List.length_cons, Nat.pow_succ, Nat.add_mul]
    rw [show 10 * n * 10 ^ r.length = n * (10 ^ r.length * 10) by rw [Nat.mul_comm 10 n, Nat.mul_assoc, Nat.mul_comm 10]]
    omega
theorem dval_append (a b : List UInt8) : dval (a ++ b) = dval a * 10 ^ b.length + dval b := by
  show (a ++ b).foldl _ 0 = _
  rw [List.foldl_append, dval_foldl b]; rfl
theorem dval_snoc (a : List UInt8) (c : UInt8) : dval (a ++ [c]) = 10 * dval a + dig c := by
  rw [dval_append]; simp [dval]; omega
theorem dval_nil : dval [] = 0 := rfl
theorem dval_lt {a : List UInt8} (h : ∀ c ∈ a, isDig c = true) : dval a < 10 ^ a.length := by
  have key : ∀ (l : List UInt8), (∀ c ∈ l, isDig c = true) → dval l < 10 ^ l.length := by
    intro l
    induction l with
    | nil => intro _; simp [dval]
    | cons c r ih =>
      intro h
      have hc := h c (by simp)
      have h1 := ih fun d hd => h d (by simp [hd])
      have h2 : dval (c :: r) = dig c * 10 ^ r.length + dval r := by
        show r.foldl _ (10 * 0 + dig c) = _
        rw [dval_foldl]; simp
      have h3 : dig c ≤ 9 := by unfold isDig at hc; simp at hc; unfold dig; omega
      rw [h2, List.length_cons, Nat.pow_succ]
      have : dig c * 10 ^ r.length ≤ 9 * 10 ^ r.length := Nat.mul_le_mul_right _ h3
      omega
  exact key a h
theorem isNat_dig {a : List UInt8} (h : isNat a = true) : ∀ c ∈ a, isDig c = true := by
  unfold isNat at h
  simp only [Bool.and_eq_true] at h
  exact List.all_eq_true.1 h.2
theorem isNat_len {a : List UInt8} (h : isNat a = true) : 0 < a.length ∧ a.length ≤ 1000 := by
  unfold isNat at h
  simp only [Bool.and_eq_true, decide_eq_true_eq] at h
  have h1 : a ≠ [] := by intro e; subst e; simp at h
  exact ⟨List.length_pos_iff.2 h1, h.1.1.2⟩
theorem isNat_first {a : List UInt8} (h : isNat a = true) (hl : 1 < a.length) : (a.getD 0 0).toNat ≠ 48 := by
  unfold isNat at h
  simp only [Bool.and_eq_true] at h
  have := h.1.2
  simp [hl] at this
  simpa using this

/-! ## Comparing -/
def cmpN (a b : Nat) : Int := if a < b then -1 else if b < a then 1 else 0
theorem cmpN_lt {a b : Nat} (h : a < b) : cmpN a b = -1 := by unfold cmpN; rw [if_pos h]
theorem cmpN_gt {a b : Nat} (h : b < a) : cmpN a b = 1 := by unfold cmpN; rw [if_neg (by omega), if_pos h]
theorem cmpN_eq (a : Nat) : cmpN a a = 0 := by unfold cmpN; rw [if_neg (by omega), if_neg (by omega)]
theorem valB_split (xs : List Nat) {k : Nat} (hk : k ≤ xs.length) : valB xs = valB (xs.take k) + 1000000000 ^ k * valB (xs.drop k) := by
  have h := valB_append (xs.take k) (xs.drop k)
  rw [List.take_append_drop, List.length_take, Nat.min_eq_left hk] at h
  exact h
theorem take_lt {xs : List Nat} (h : ∀ x ∈ xs, x < 1000000000) (k : Nat) (hk : k ≤ xs.length) : valB (xs.take k) < 1000000000 ^ k := by
  have := valB_lt (xs := xs.take k) (fun x hx => h x (List.mem_of_mem_take hx))
  rwa [List.length_take, Nat.min_eq_left hk] at this
theorem cmp_at {xs ys : List Nat} (hx : ∀ x ∈ xs, x < 1000000000) {k : Nat} (hl : xs.length = ys.length) (hk : k < xs.length) (he : ∀ j, k < j → j < xs.length → xs.getD j 0 = ys.getD j 0) (hlt : xs.getD k 0 < ys.getD k 0) : valB xs < valB ys := by
  have h1 := valB_split xs (k := k) (by omega)
  have h2 := valB_split ys (k := k) (by omega)
  have h3 := take_lt hx k (by omega)
  have hd : xs.drop (k + 1) = ys.drop (k + 1) := by
    apply List.ext_getElem?
    intro j
    rw [List.getElem?_drop, List.getElem?_drop]
    by_cases hj : k + 1 + j < xs.length
    · have := he (k + 1 + j) (by omega) hj
      rw [List.getD_eq_getElem?_getD, List.getD_eq_getElem?_getD, List.getElem?_eq_getElem hj, List.getElem?_eq_getElem (show k + 1 + j < ys.length by omega)] at this
      rw [List.getElem?_eq_getElem hj, List.getElem?_eq_getElem (show k + 1 + j < ys.length by omega)]
      simpa using this
    · rw [List.getElem?_eq_none (by omega), List.getElem?_eq_none (by omega)]
  rw [List.drop_eq_getElem_cons hk] at h1
  rw [List.drop_eq_getElem_cons (show k < ys.length by omega), ← hd] at h2
  rw [List.getD_eq_getElem?_getD, List.getD_eq_getElem?_getD, List.getElem?_eq_getElem hk, List.getElem?_eq_getElem (show k < ys.length by omega)] at hlt
  simp only [Option.getD_some] at hlt
  simp only [valB] at h1 h2
  have h4 : 1000000000 ^ k * (xs[k] + 1) ≤ 1000000000 ^ k * (ys[k]'(by omega)) := Nat.mul_le_mul_left _ hlt
  rw [Nat.mul_add] at h1 h2 h4
  omega
theorem cmp_same {xs ys : List Nat} (hl : xs.length = ys.length) (he : ∀ j, j < xs.length → xs.getD j 0 = ys.getD j 0) : xs = ys := by
  apply List.ext_getElem hl
  intro j h1 h2
  have := he j h1
  rw [List.getD_eq_getElem?_getD, List.getD_eq_getElem?_getD, List.getElem?_eq_getElem h1, List.getElem?_eq_getElem h2] at this
  simpa using this
theorem blk_top {n : Nat} (h : n ≠ 0) : 1000000000 ^ ((blk n).length - 1) ≤ n ∧ 0 < (blk n).length := by
  induction n using Nat.strongRecOn with
  | _ n ih =>
    rw [blk_pos h]
    simp only [List.length_cons, Nat.add_sub_cancel]
    refine ⟨?_, by omega⟩
    by_cases h0 : n / 1000000000 = 0
    · rw [h0, blk_zero]; simp; omega
    · obtain ⟨h1, h2⟩ := ih _ (by omega) h0
      obtain ⟨m, hm⟩ : ∃ m, (blk (n / 1000000000)).length = m + 1 := ⟨(blk (n / 1000000000)).length - 1, by omega⟩
      rw [hm] at h1 ⊢
      simp only [Nat.add_sub_cancel] at h1
      rw [Nat.pow_succ]
      exact (Nat.le_div_iff_mul_le (by decide)).1 h1
theorem blk_len_lt {a b : Nat} (h : (blk a).length < (blk b).length) : a < b := by
  have hb : b ≠ 0 := by rintro rfl; simp [blk_zero] at h
  obtain ⟨h1, h2⟩ := blk_top hb
  have h3 := valB_lt (xs := blk a) (fun x hx => blk_lt hx)
  rw [valB_blk] at h3
  have h4 : 1000000000 ^ (blk a).length ≤ 1000000000 ^ ((blk b).length - 1) := Nat.pow_le_pow_right (by omega) (by omega)
  omega
theorem blk_all (n : Nat) : ∀ x ∈ blk n, x < 1000000000 := fun x hx => blk_lt hx
theorem blk_len_le {n k : Nat} (h : n < 1000000000 ^ k) : (blk n).length ≤ k := by
  by_cases h0 : n = 0
  · subst h0; simp [blk_zero]
  · obtain ⟨h1, h2⟩ := blk_top h0
    by_cases hk : (blk n).length ≤ k
    · exact hk
    · have : 1000000000 ^ k ≤ 1000000000 ^ ((blk n).length - 1) := Nat.pow_le_pow_right (by omega) (by omega)
      omega
theorem getD_lt {xs : List Nat} (h : ∀ x ∈ xs, x < 1000000000) (i : Nat) : xs.getD i 0 < 1000000000 := by
  rw [List.getD_eq_getElem?_getD]
  cases hx : xs[i]? with
  | none => simp
  | some x => exact h x (List.mem_of_getElem? hx)

/-- The digits from c to j. -/
def seg (a : List UInt8) (c j : Nat) : List UInt8 := (a.drop c).take (j - c)
theorem seg_step {a : List UInt8} {c j : Nat} (hc : c ≤ j) (hj : j < a.length) : dval (seg a c (j + 1)) = 10 * dval (seg a c j) + dig (a.getD j 0) := by
  have : seg a c (j + 1) = seg a c j ++ [a.getD j 0] := by
    unfold seg
    rw [show j + 1 - c = (j - c) + 1 by omega, List.take_add_one, List.getElem?_drop, show c + (j - c) = j by omega, List.getElem?_eq_getElem hj, List.getD_eq_getElem?_getD, List.getElem?_eq_getElem hj]
    rfl
  rw [this, dval_snoc]
theorem seg_nil (a : List UInt8) (c : Nat) : dval (seg a c c) = 0 := by unfold seg; simp [dval]
theorem seg_len {a : List UInt8} {c j : Nat} (hc : c ≤ j) (hj : j ≤ a.length) : (seg a c j).length = j - c := by unfold seg; simp; omega
theorem seg_lt {a : List UInt8} (h : ∀ c ∈ a, isDig c = true) {c j : Nat} (hc : c ≤ j) (hj : j ≤ a.length) (h9 : j - c ≤ 9) : dval (seg a c j) < 10 ^ (j - c) ∧ dval (seg a c j) < 1000000000 := by
  have h1 := dval_lt (a := seg a c j) (fun d hd => h d (List.mem_of_mem_drop (List.mem_of_mem_take hd)))
  rw [seg_len hc hj] at h1
  have h2 : 10 ^ (j - c) ≤ 10 ^ 9 := Nat.pow_le_pow_right (by omega) h9
  exact ⟨h1, by omega⟩
theorem take_seg {a : List UInt8} {c j : Nat} (hc : c ≤ j) (hj : j ≤ a.length) : dval (a.take j) = dval (a.take c) * 10 ^ (j - c) + dval (seg a c j) := by
  have : a.take j = a.take c ++ seg a c j := by
    have h1 := List.take_append_drop c (a.take j)
    rw [List.take_take, Nat.min_eq_left hc, List.drop_take] at h1
    exact h1.symm
  rw [this, dval_append, seg_len hc hj]
theorem dig_range {a : List UInt8} (h : ∀ c ∈ a, isDig c = true) {j : Nat} (hj : j < a.length) : 48 ≤ (a.getD j 0).toNat ∧ (a.getD j 0).toNat ≤ 57 ∧ dig (a.getD j 0) = (a.getD j 0).toNat - 48 := by
  have h1 := h (a.getD j 0) (by rw [List.getD_eq_getElem?_getD, List.getElem?_eq_getElem hj]; exact List.getElem_mem hj)
  unfold isDig at h1
  simp only [Bool.and_eq_true, decide_eq_true_eq] at h1
  exact ⟨h1.1, h1.2, rfl⟩
theorem getD_take {α : Type} (a : List α) (d : α) {j m : Nat} (h : j < m) : (a.take m).getD j d = a.getD j d := by
  rw [List.getD_eq_getElem?_getD, List.getD_eq_getElem?_getD, List.getElem?_take, if_pos h]

theorem blocks_step {a : List UInt8} {xs : List Nat} {m : Nat} (hm : m ≤ a.length) (hv : valB xs + 1000000000 ^ xs.length * dval (a.take m) = dval a) :
    valB (xs ++ [dval (seg a (m - 9) m)]) + 1000000000 ^ (xs ++ [dval (seg a (m - 9) m)]).length * dval (a.take (m - 9)) = dval a := by
  rw [valB_append, List.length_append, List.length_singleton, Nat.pow_succ, ← hv, take_seg (a := a) (c := m - 9) (j := m) (by omega) hm]
  have h1 : valB [dval (seg a (m - 9) m)] = dval (seg a (m - 9) m) := by simp only [valB, Nat.mul_zero, Nat.add_zero]
  rw [h1]
  by_cases h9 : 9 ≤ m
  · rw [show m - (m - 9) = 9 by omega, show (10 : Nat) ^ 9 = 1000000000 from rfl]
    generalize 1000000000 ^ xs.length = p
    generalize dval (a.take (m - 9)) = q
    generalize dval (seg a (m - 9) m) = r
    have : p * (q * 1000000000 + r) = p * 1000000000 * q + p * r := by rw [Nat.mul_add, Nat.mul_assoc, Nat.mul_comm q]
    omega
  · rw [show m - 9 = 0 by omega, List.take_zero, dval_nil, Nat.mul_zero, Nat.add_zero, Nat.zero_mul, Nat.zero_add]

theorem cmp_top {a b k : Nat} (hl : (blk a).length = (blk b).length) (hk : k < (blk a).length) (he : ∀ j, k < j → j < (blk a).length → (blk a).getD j 0 = (blk b).getD j 0) (hne : cmpN ((blk a).getD k 0) ((blk b).getD k 0) ≠ 0) : cmpN ((blk a).getD k 0) ((blk b).getD k 0) = cmpN a b := by
  rcases Nat.lt_trichotomy ((blk a).getD k 0) ((blk b).getD k 0) with h | h | h
  · have := cmp_at (blk_all a) hl hk he h
    rw [valB_blk, valB_blk] at this
    rw [cmpN_lt h, cmpN_lt this]
  · rw [h, cmpN_eq] at hne; exact absurd rfl hne
  · have := cmp_at (blk_all b) hl.symm (k := k) (by omega) (fun j h1 h2 => (he j h1 (by omega)).symm) h
    rw [valB_blk, valB_blk] at this
    rw [cmpN_gt h, cmpN_gt this]
theorem cmpN_zero {a b : Nat} (h : cmpN a b = 0) : a = b := by
  unfold cmpN at h
  split at h
  · omega
  · split at h
    · omega
    · omega
theorem blk_same {a b : Nat} (hl : (blk a).length = (blk b).length) (he : ∀ j, j < (blk a).length → (blk a).getD j 0 = (blk b).getD j 0) : a = b := by
  have := cmp_same hl he
  rw [← valB_blk a, ← valB_blk b, this]

/-! ## Block by block -/
def eachS (g : Nat → Nat → Nat → Nat × Nat) (xs ys : List Nat) : Nat → List Nat × Nat
  | 0 => ([], 0)
  | i + 1 => let r := g (xs.getD i 0) (ys.getD i 0) (eachS g xs ys i).2; ((eachS g xs ys i).1 ++ [r.1], r.2)
theorem eachS_succ (g : Nat → Nat → Nat → Nat × Nat) (xs ys : List Nat) (i : Nat) : eachS g xs ys (i + 1) = ((eachS g xs ys i).1 ++ [(g (xs.getD i 0) (ys.getD i 0) (eachS g xs ys i).2).1], (g (xs.getD i 0) (ys.getD i 0) (eachS g xs ys i).2).2) := rfl
theorem eachS_len (g : Nat → Nat → Nat → Nat × Nat) (xs ys : List Nat) (i : Nat) : (eachS g xs ys i).1.length = i := by
  induction i with
  | zero => rfl
  | succ i ih => rw [eachS_succ]; simp [ih]
def eachL (g : Nat → Nat → Nat → Nat × Nat) (xs ys : List Nat) : List Nat := (eachS g xs ys (max xs.length ys.length + 1)).1
/-- The value of the lowest i blocks. -/
def lowB (xs : List Nat) : Nat → Nat
  | 0 => 0
  | i + 1 => lowB xs i + 1000000000 ^ i * xs.getD i 0
theorem lowB_take (xs : List Nat) (i : Nat) (hi : i ≤ xs.length) : lowB xs i = valB (xs.take i) := by
  induction i with
  | zero => rfl
  | succ i ih =>
    rw [lowB, ih (by omega), List.take_add_one, List.getElem?_eq_getElem (show i < xs.length by omega), valB_append, List.length_take, Nat.min_eq_left (by omega), List.getD_eq_getElem?_getD, List.getElem?_eq_getElem (show i < xs.length by omega)]
    simp only [Option.toList_some, valB, Nat.mul_zero, Nat.add_zero, Option.getD_some]
theorem lowB_all (xs : List Nat) (i : Nat) (hi : xs.length ≤ i) : lowB xs i = valB xs := by
  obtain ⟨k, rfl⟩ : ∃ k, i = xs.length + k := ⟨i - xs.length, by omega⟩
  induction k with
  | zero => rw [Nat.add_zero, lowB_take xs _ (Nat.le_refl _), List.take_length]
  | succ k ih =>
    rw [← Nat.add_assoc, lowB, ih (by omega), List.getD_eq_getElem?_getD, List.getElem?_eq_none (by omega), Option.getD_none, Nat.mul_zero, Nat.add_zero]
def gPlus (a b c : Nat) : Nat × Nat := ((a + b + c) % 1000000000, (a + b + c) / 1000000000)
def gMinus (a b c : Nat) : Nat × Nat := ((a + 1000000000 - b - c) % 1000000000, 1 - (a + 1000000000 - b - c) / 1000000000)
def gTimes (k a b c : Nat) : Nat × Nat := ((a * k + c) % 1000000000, (a * k + c) / 1000000000)
theorem gPlus_ok {a b c : Nat} (ha : a < 1000000000) (hb : b < 1000000000) (hc : c ≤ 1) : (gPlus a b c).1 < 1000000000 ∧ (gPlus a b c).2 ≤ 1 ∧ (gPlus a b c).1 + 1000000000 * (gPlus a b c).2 = a + b + c := by
  unfold gPlus; simp only; omega
theorem gMinus_ok {a b c : Nat} (ha : a < 1000000000) (hb : b < 1000000000) (hc : c ≤ 1) : (gMinus a b c).1 < 1000000000 ∧ (gMinus a b c).2 ≤ 1 ∧ (gMinus a b c).1 + b + c = a + 1000000000 * (gMinus a b c).2 := by
  unfold gMinus; simp only; omega
theorem gTimes_ok {k a b c : Nat} (hk : k < 1000000000) (ha : a < 1000000000) (hc : c < 1000000000) : (gTimes k a b c).1 < 1000000000 ∧ (gTimes k a b c).2 < 1000000000 ∧ (gTimes k a b c).1 + 1000000000 * (gTimes k a b c).2 = a * k + c := by
  unfold gTimes
  have h1 : a * k ≤ 999999999 * 999999999 := Nat.mul_le_mul (by omega) (by omega)
  simp only
  omega
theorem each_all {g : Nat → Nat → Nat → Nat × Nat} {xs ys : List Nat} {good : Nat → Prop} (hx : ∀ x ∈ xs, x < 1000000000) (hy : ∀ x ∈ ys, x < 1000000000) (h0 : good 0) (hg : ∀ a b c, a < 1000000000 → b < 1000000000 → good c → (g a b c).1 < 1000000000 ∧ good (g a b c).2) (i : Nat) :
    (∀ x ∈ (eachS g xs ys i).1, x < 1000000000) ∧ good (eachS g xs ys i).2 := by
  induction i with
  | zero => exact ⟨fun x h => by simp [eachS] at h, h0⟩
  | succ i ih =>
    have h := hg (xs.getD i 0) (ys.getD i 0) _ (getD_lt hx i) (getD_lt hy i) ih.2
    rw [eachS_succ]
    refine ⟨fun x hm => ?_, h.2⟩
    rcases List.mem_append.1 hm with hm | hm
    · exact ih.1 x hm
    · simp at hm; subst hm; exact h.1
theorem snocB (xs : List Nat) (x : Nat) : valB (xs ++ [x]) = valB xs + 1000000000 ^ xs.length * x := by rw [valB_append]; simp only [valB, Nat.mul_zero, Nat.add_zero]
theorem plus_run {xs ys : List Nat} (hx : ∀ x ∈ xs, x < 1000000000) (hy : ∀ x ∈ ys, x < 1000000000) (i : Nat) : valB (eachS gPlus xs ys i).1 + 1000000000 ^ i * (eachS gPlus xs ys i).2 = lowB xs i + lowB ys i := by
  induction i with
  | zero => rfl
  | succ i ih =>
    have hA := each_all (good := fun c => c ≤ 1) hx hy (Nat.zero_le _) (fun a b c ha hb hc => ⟨(gPlus_ok ha hb hc).1, (gPlus_ok ha hb hc).2.1⟩) i
    have h := (gPlus_ok (getD_lt hx i) (getD_lt hy i) hA.2).2.2
    rw [eachS_succ]
    simp only [snocB, eachS_len, lowB]
    rw [Nat.pow_succ, Nat.mul_assoc]
    have h2 : 1000000000 ^ i * ((gPlus (xs.getD i 0) (ys.getD i 0) (eachS gPlus xs ys i).2).1 + 1000000000 * (gPlus (xs.getD i 0) (ys.getD i 0) (eachS gPlus xs ys i).2).2) = 1000000000 ^ i * (xs.getD i 0 + ys.getD i 0 + (eachS gPlus xs ys i).2) := by rw [h]
    rw [Nat.mul_add, Nat.mul_add, Nat.mul_add] at h2
    omega
theorem times_run {k : Nat} {xs ys : List Nat} (hk : k < 1000000000) (hx : ∀ x ∈ xs, x < 1000000000) (hy : ∀ x ∈ ys, x < 1000000000) (i : Nat) : valB (eachS (gTimes k) xs ys i).1 + 1000000000 ^ i * (eachS (gTimes k) xs ys i).2 = lowB xs i * k := by
  induction i with
  | zero => simp [eachS, valB, lowB]
  | succ i ih =>
    have hA := each_all (good := fun c => c < 1000000000) hx hy (by decide) (fun a b c ha hb hc => ⟨(gTimes_ok (b := b) hk ha hc).1, (gTimes_ok (b := b) hk ha hc).2.1⟩) i
    have h := (gTimes_ok (b := ys.getD i 0) hk (getD_lt hx i) hA.2).2.2
    rw [eachS_succ]
    simp only [snocB, eachS_len, lowB]
    rw [Nat.pow_succ, Nat.mul_assoc, Nat.add_mul, Nat.mul_assoc (1000000000 ^ i)]
    have h2 : 1000000000 ^ i * ((gTimes k (xs.getD i 0) (ys.getD i 0) (eachS (gTimes k) xs ys i).2).1 + 1000000000 * (gTimes k (xs.getD i 0) (ys.getD i 0) (eachS (gTimes k) xs ys i).2).2) = 1000000000 ^ i * (xs.getD i 0 * k + (eachS (gTimes k) xs ys i).2) := by rw [h]
    rw [Nat.mul_add, Nat.mul_add] at h2
    omega
theorem minus_run {xs ys : List Nat} (hx : ∀ x ∈ xs, x < 1000000000) (hy : ∀ x ∈ ys, x < 1000000000) (i : Nat) : valB (eachS gMinus xs ys i).1 + lowB ys i = lowB xs i + 1000000000 ^ i * (eachS gMinus xs ys i).2 := by
  induction i with
  | zero => rfl
  | succ i ih =>
    have hA := each_all (good := fun c => c ≤ 1) hx hy (Nat.zero_le _) (fun a b c ha hb hc => ⟨(gMinus_ok ha hb hc).1, (gMinus_ok ha hb hc).2.1⟩) i
    have h := (gMinus_ok (getD_lt hx i) (getD_lt hy i) hA.2).2.2
    rw [eachS_succ]
    simp only [snocB, eachS_len, lowB]
    rw [Nat.pow_succ, Nat.mul_assoc]
    have h2 : 1000000000 ^ i * ((gMinus (xs.getD i 0) (ys.getD i 0) (eachS gMinus xs ys i).2).1 + ys.getD i 0 + (eachS gMinus xs ys i).2) = 1000000000 ^ i * (xs.getD i 0 + 1000000000 * (gMinus (xs.getD i 0) (ys.getD i 0) (eachS gMinus xs ys i).2).2) := by rw [h]
    rw [Nat.mul_add, Nat.mul_add, Nat.mul_add] at h2
    omega
theorem low_lt {xs : List Nat} (h : ∀ x ∈ xs, x < 1000000000) (i : Nat) : lowB xs i < 1000000000 ^ i := by
  induction i with
  | zero => simp [lowB]
  | succ i ih =>
    have := getD_lt h i
    rw [lowB, Nat.pow_succ]
    have h2 : 1000000000 ^ i * xs.getD i 0 ≤ 1000000000 ^ i * 999999999 := Nat.mul_le_mul_left _ (by omega)
    generalize 1000000000 ^ i * xs.getD i 0 = q at *
    generalize 1000000000 ^ i = p at *
    omega
theorem plus_blk (a b : Nat) : trimL (eachL gPlus (blk a) (blk b)) = blk (a + b) := by
  have hx := blk_all a
  have hy := blk_all b
  have hA := fun i => each_all (good := fun c => c ≤ 1) hx hy (Nat.zero_le _) (fun a b c ha hb hc => ⟨(gPlus_ok ha hb hc).1, (gPlus_ok ha hb hc).2.1⟩) i
  unfold eachL
  rw [trim_blk (hA _).1]
  congr 1
  have h := plus_run hx hy (max (blk a).length (blk b).length + 1)
  have h1 := plus_run hx hy (max (blk a).length (blk b).length)
  rw [lowB_all _ _ (by omega), lowB_all _ _ (by omega), valB_blk, valB_blk] at h h1
  have hc : (eachS gPlus (blk a) (blk b) (max (blk a).length (blk b).length + 1)).2 = 0 := by
    rw [eachS_succ]
    simp only
    rw [List.getD_eq_getElem?_getD, List.getElem?_eq_none (by omega), List.getD_eq_getElem?_getD, List.getElem?_eq_none (by omega)]
    have := (hA (max (blk a).length (blk b).length)).2
    generalize (eachS gPlus (blk a) (blk b) (max (blk a).length (blk b).length)).2 = c at this ⊢
    unfold gPlus; simp only [Option.getD_none]; omega
  rw [hc, Nat.mul_zero, Nat.add_zero] at h
  exact h
theorem times_blk {k : Nat} (hk : k < 1000000000) (a : Nat) : trimL (eachL (gTimes k) (blk a) []) = blk (a * k) := by
  have hx := blk_all a
  have hy : ∀ x ∈ ([] : List Nat), x < 1000000000 := fun x h => by simp at h
  have hA := fun i => each_all (good := fun c => c < 1000000000) hx hy (by decide) (fun a b c ha hb hc => ⟨(gTimes_ok (b := b) hk ha hc).1, (gTimes_ok (b := b) hk ha hc).2.1⟩) i
  unfold eachL
  rw [trim_blk (hA _).1]
  congr 1
  have h := times_run hk hx hy (max (blk a).length ([] : List Nat).length + 1)
  rw [lowB_all _ _ (by omega), valB_blk] at h
  have hc : (eachS (gTimes k) (blk a) [] (max (blk a).length ([] : List Nat).length + 1)).2 = 0 := by
    rw [eachS_succ]
    simp only
    rw [List.getD_eq_getElem?_getD, List.getElem?_eq_none (by omega)]
    have := (hA (max (blk a).length ([] : List Nat).length)).2
    generalize (eachS (gTimes k) (blk a) [] (max (blk a).length ([] : List Nat).length)).2 = c at this ⊢
    unfold gTimes; simp only [Option.getD_none]; omega
  rw [hc, Nat.mul_zero, Nat.add_zero] at h
  exact h
theorem minus_blk {a b : Nat} (hba : b ≤ a) : trimL (eachL gMinus (blk a) (blk b)) = blk (a - b) := by
  have hx := blk_all a
  have hy := blk_all b
  have hA := fun i => each_all (good := fun c => c ≤ 1) hx hy (Nat.zero_le _) (fun a b c ha hb hc => ⟨(gMinus_ok ha hb hc).1, (gMinus_ok ha hb hc).2.1⟩) i
  unfold eachL
  rw [trim_blk (hA _).1]
  congr 1
  have h := minus_run hx hy (max (blk a).length (blk b).length + 1)
  rw [lowB_all _ _ (by omega), lowB_all _ _ (by omega), valB_blk, valB_blk] at h
  have hlt := valB_lt (hA (max (blk a).length (blk b).length + 1)).1
  rw [eachS_len] at hlt
  have hc := (hA (max (blk a).length (blk b).length + 1)).2
  generalize (eachS gMinus (blk a) (blk b) (max (blk a).length (blk b).length + 1)).2 = c at *
  have hc0 : c = 0 := by
    rcases Nat.eq_zero_or_pos c with h0 | h0
    · exact h0
    · obtain rfl : c = 1 := by omega
      rw [Nat.mul_one] at h
      omega
  rw [hc0, Nat.mul_zero, Nat.add_zero] at h
  omega
end Go.Proofs.YtfeegacmmfgjfaaGreatDoorM

/-!  Plain: numerals. -/
set_option linter.unusedVariables false
namespace Go.Proofs.YtfeegacmmfgjfaaGreatDoorM
open Go.Lib
abbrev dd (n : Nat) : List UInt8 := decDigits n
theorem dd_small {n : Nat} (h : n < 10) : dd n = [UInt8.ofNat (48 + n)] := decDigits_one h
theorem dd_big {n : Nat} (h : ¬ n < 10) : dd n = dd (n / 10) ++ [UInt8.ofNat (48 + n % 10)] := by unfold dd; rw [decDigits, dif_neg h]
theorem dig_toNat {k : Nat} (h : k < 10) : (UInt8.ofNat (48 + k)).toNat = 48 + k := by
  rw [UInt8.toNat_ofNat']; omega
theorem dd_ne (n : Nat) : dd n ≠ [] := by
  by_cases h : n < 10
  · rw [dd_small h]; simp
  · rw [dd_big h]; simp
theorem dd_pos (n : Nat) : 0 < (dd n).length := List.length_pos_iff.2 (dd_ne n)
theorem dd_dig (n : Nat) : ∀ c ∈ dd n, isDig c = true := by
  have one : ∀ k, k < 10 → isDig (UInt8.ofNat (48 + k)) = true := fun k hk => by
    unfold isDig
    rw [dig_toNat hk, decide_eq_true (by omega), decide_eq_true (by omega)]; rfl
  induction n using Nat.strongRecOn with
  | _ n ih =>
    by_cases h : n < 10
    · rw [dd_small h]
      intro c hc
      rw [List.mem_singleton] at hc; subst hc; exact one n h
    · rw [dd_big h]
      intro c hc
      rcases List.mem_append.1 hc with hc | hc
      · exact ih _ (by omega) c hc
      · simp only [List.mem_singleton] at hc; subst hc; exact one _ (by omega)
theorem dval_dd (n : Nat) : dval (dd n) = n := by
  induction n using Nat.strongRecOn with
  | _ n ih =>
    by_cases h : n < 10
    · rw [dd_small h]
      show 10 * 0 + dig _ = n
      unfold dig; rw [dig_toNat h]; omega
    · rw [dd_big h, dval_snoc, ih _ (by omega)]
      unfold dig; rw [dig_toNat (by omega)]; omega
theorem dd_first (n : Nat) (h : 0 < n) : ((dd n).getD 0 0).toNat ≠ 48 := by
  induction n using Nat.strongRecOn with
  | _ n ih =>
    by_cases h1 : n < 10
    · rw [dd_small h1]
      simp only [List.getD_cons_zero]
      rw [dig_toNat h1]; omega
    · rw [dd_big h1]
      have h2 := ih (n / 10) (by omega) (by omega)
      have h3 := dd_pos (n / 10)
      rw [List.getD_eq_getElem?_getD] at h2 ⊢
      rw [List.getElem?_append_left h3]
      exact h2
theorem isNat_dd {n : Nat} (h : (dd n).length ≤ 1000) : isNat (dd n) = true := by
  refine isNat_yes (dd_ne n) h (fun h1 => dd_first n ?_) fun i hi => dd_dig n _ ?_
  · rcases Nat.eq_zero_or_pos n with rfl | h2
    · rw [dd_small (by omega)] at h1; simp at h1
    · exact h2
  · rw [List.getD_eq_getElem?_getD, List.getElem?_eq_getElem hi]; exact List.getElem_mem hi
theorem dd_of_digits : ∀ (m : Nat) (a : List UInt8), a.length = m + 1 → (∀ c ∈ a, isDig c = true) → (1 < a.length → (a.getD 0 0).toNat ≠ 48) → dd (dval a) = a
  | 0, a, hl, hd, _ => by
    obtain ⟨c, rfl⟩ : ∃ c, a = [c] := List.length_eq_one_iff.1 hl
    have h1 := hd c (by simp)
    unfold isDig at h1
    simp only [Bool.and_eq_true, decide_eq_true_eq] at h1
    have h2 : dval [c] = c.toNat - 48 := by show 10 * 0 + dig c = _; unfold dig; omega
    rw [h2, dd_small (by omega), show 48 + (c.toNat - 48) = c.toNat by omega]
    simp
  | m + 1, a, hl, hd, hf => by
    obtain ⟨b, c, rfl⟩ : ∃ b c, a = b ++ [c] := ⟨a.dropLast, a.getLast (by intro e; subst e; simp at hl), (List.dropLast_concat_getLast _).symm⟩
    simp only [List.length_append, List.length_singleton] at hl hf
    have hb : b.length = m + 1 := by omega
    have hfb : (b.getD 0 0).toNat ≠ 48 := by
      have := hf (by omega)
      rw [List.getD_eq_getElem?_getD, List.getElem?_append_left (by omega)] at this
      rw [List.getD_eq_getElem?_getD]; exact this
    have ih := dd_of_digits m b hb (fun d hd' => hd d (by simp [hd'])) (fun _ => hfb)
    have h1 := hd c (by simp)
    unfold isDig at h1
    simp only [Bool.and_eq_true, decide_eq_true_eq] at h1
    have hbp : 0 < dval b := by
      rcases Nat.eq_zero_or_pos (dval b) with h0 | h0
      · rw [h0, dd_small (by omega)] at ih
        rw [← ih] at hfb
        exact absurd rfl hfb
      · exact h0
    have hdc : dig c ≤ 9 ∧ 48 + dig c = c.toNat := by unfold dig; omega
    rw [dval_snoc, dd_big (by omega), show (10 * dval b + dig c) / 10 = dval b by omega, ih, show 48 + (10 * dval b + dig c) % 10 = c.toNat by omega]
    simp
theorem dd_dval {a : List UInt8} (h : isNat a = true) : dd (dval a) = a := by
  have h1 := isNat_len h
  exact dd_of_digits (a.length - 1) a (by omega) (isNat_dig h) (isNat_first h)
theorem dd_len_le {n k : Nat} (hk : 0 < k) (h : n < 10 ^ k) : (dd n).length ≤ k := by
  induction k generalizing n with
  | zero => omega
  | succ k ih =>
    by_cases h1 : n < 10
    · rw [dd_small h1]; simp
    · rw [dd_big h1, List.length_append, List.length_singleton]
      have hk0 : 0 < k := by
        rcases Nat.eq_zero_or_pos k with rfl | h2
        · simp at h; omega
        · exact h2
      have := ih (n := n / 10) hk0 (by rw [Nat.pow_succ] at h; omega)
      omega
theorem dd_lt (n : Nat) : n < 10 ^ (dd n).length := by
  have := dval_lt (dd_dig n)
  rwa [dval_dd] at this
theorem dd_mono {a b : Nat} (h : a ≤ b) : (dd a).length ≤ (dd b).length := dd_len_le (dd_pos b) (Nat.lt_of_le_of_lt h (dd_lt b))
/-- A numeral, continued by k places. -/
theorem dd_pad {m : Nat} (hm : 0 < m) : ∀ {k : Nat} {x : Nat}, 0 < k → x < 10 ^ k → dd (m * 10 ^ k + x) = dd m ++ (List.replicate (k - (dd x).length) 48 ++ dd x)
  | 0, x, hk, _ => by omega
  | k + 1, x, _, hx => by
    rw [Nat.pow_succ] at hx ⊢
    rw [dd_big (by have := Nat.one_le_pow k 10 (by omega); have : 1 * (1 * 10) ≤ m * (10 ^ k * 10) := Nat.mul_le_mul hm (Nat.mul_le_mul_right _ this); omega)]
    have e1 : (m * (10 ^ k * 10) + x) / 10 = m * 10 ^ k + x / 10 := by rw [← Nat.mul_assoc]; omega
    have e2 : (m * (10 ^ k * 10) + x) % 10 = x % 10 := by rw [← Nat.mul_assoc]; omega
    rw [e1, e2]
    by_cases hk : k = 0
    · subst hk
      have hx10 : x < 10 := by simpa using hx
      rw [dd_small hx10, Nat.div_eq_of_lt hx10, Nat.mod_eq_of_lt hx10]
      simp
    · rw [dd_pad hm (k := k) (x := x / 10) (by omega) (by omega)]
      by_cases hx10 : x < 10
      · rw [Nat.div_eq_of_lt hx10, Nat.mod_eq_of_lt hx10, dd_small hx10, dd_small (show 0 < 10 by omega)]
        simp only [List.length_singleton, List.append_assoc]
        rw [show k + 1 - 1 = (k - 1) + 1 by omega, List.replicate_succ']
        simp
      · rw [dd_big hx10]
        simp only [List.length_append, List.length_singleton, List.append_assoc]
        rw [show k + 1 - ((dd (x / 10)).length + 1) = k - (dd (x / 10)).length by omega]
theorem blk_get (n j : Nat) : (blk n).getD j 0 = n / 1000000000 ^ j % 1000000000 := by
  induction j generalizing n with
  | zero =>
    by_cases h : n = 0
    · subst h; rfl
    · rw [blk_pos h]; simp
  | succ j ih =>
    by_cases h : n = 0
    · subst h; rw [blk_zero]; simp
    · rw [blk_pos h, List.getD_cons_succ, ih, Nat.pow_succ, Nat.mul_comm, Nat.div_div_eq_div_mul]
theorem blk_high {n : Nat} (h : n ≠ 0) : n / 1000000000 ^ (blk n).length = 0 ∧ 0 < n / 1000000000 ^ ((blk n).length - 1) := by
  obtain ⟨h1, h2⟩ := blk_top h
  have h3 := valB_lt (blk_all n)
  rw [valB_blk] at h3
  exact ⟨Nat.div_eq_of_lt h3, Nat.div_pos h1 (Nat.pow_pos (by decide))⟩
/-- The text of the blocks from the top one down to the i-th. -/
def textAt (n i : Nat) : List UInt8 := if i = 0 then [] else dd (n / 1000000000 ^ ((blk n).length - i))
theorem textAt_step {n i : Nat} (hn : n ≠ 0) (hi : i < (blk n).length) : textAt n (i + 1) = textAt n i ++ ((if 0 < i then List.replicate (9 - (dd ((blk n).getD ((blk n).length - 1 - i) 0)).length) 48 else []) ++ dd ((blk n).getD ((blk n).length - 1 - i) 0)) := by
  obtain ⟨h1, h2⟩ := blk_high hn
  rw [blk_get]
  unfold textAt
  rw [if_neg (by omega)]
  by_cases h0 : i = 0
  · subst h0
    rw [if_pos rfl, if_neg (by omega)]
    simp only [Nat.zero_add, Nat.sub_zero, List.nil_append]
    have : n / 1000000000 ^ ((blk n).length - 1) < 1000000000 := by
      rw [Nat.div_lt_iff_lt_mul (Nat.pow_pos (by decide)), Nat.mul_comm, ← Nat.pow_succ]
      have h3 := valB_lt (blk_all n)
      rw [valB_blk] at h3
      rwa [show ((blk n).length - 1).succ = (blk n).length by omega]
    rw [Nat.mod_eq_of_lt this]
  · rw [if_neg h0, if_pos (by omega)]
    have e : (blk n).length - i = ((blk n).length - 1 - i) + 1 := by omega
    rw [show (blk n).length - (i + 1) = (blk n).length - 1 - i by omega]
    have e2 : n / 1000000000 ^ ((blk n).length - i) = n / 1000000000 ^ ((blk n).length - 1 - i) / 1000000000 := by
      rw [e, Nat.pow_succ, Nat.div_div_eq_div_mul]
    have hp : 0 < n / 1000000000 ^ ((blk n).length - i) := by
      refine Nat.lt_of_lt_of_le h2 (Nat.div_le_div_left (Nat.pow_le_pow_right (by decide) (by omega)) (Nat.pow_pos (by decide)))
    rw [e2] at hp ⊢
    generalize n / 1000000000 ^ ((blk n).length - 1 - i) = q at hp ⊢
    have := dd_pad hp (k := 9) (x := q % 1000000000) (by omega) (Nat.mod_lt _ (by decide))
    rw [show (10 : Nat) ^ 9 = 1000000000 from rfl, Nat.mul_comm, Nat.div_add_mod] at this
    exact this
theorem textAt_all {n : Nat} (hn : n ≠ 0) : textAt n (blk n).length = dd n := by
  obtain ⟨_, h2⟩ := blk_top hn
  unfold textAt
  rw [if_neg (by omega), Nat.sub_self, Nat.pow_zero, Nat.div_one]
theorem textAt_len {n i : Nat} (hi : i ≤ (blk n).length) : (textAt n i).length ≤ 9 * i := by
  induction i with
  | zero => simp [textAt]
  | succ i ih =>
    have hn : n ≠ 0 := by rintro rfl; rw [blk_zero] at hi; simp at hi
    have h9 : (dd ((blk n).getD ((blk n).length - 1 - i) 0)).length ≤ 9 := dd_len_le (by omega) (getD_lt (blk_all n) _)
    rw [textAt_step hn hi, List.length_append, List.length_append]
    have := ih (by omega)
    split
    · rw [List.length_replicate]; omega
    · rw [List.length_nil]; omega
theorem blk_len_dd {n k : Nat} (h : (dd n).length ≤ 9 * k) : (blk n).length ≤ k := by
  refine blk_len_le (Nat.lt_of_lt_of_le (dd_lt n) ?_)
  rw [show (1000000000 : Nat) = 10 ^ 9 from rfl, ← Nat.pow_mul]
  exact Nat.pow_le_pow_right (by decide) h
theorem dd_lt_of {n k : Nat} (h : (dd n).length ≤ k) : n < 10 ^ k := Nat.lt_of_lt_of_le (dd_lt n) (Nat.pow_le_pow_right (by decide) h)
theorem dd_add {x y k : Nat} (hx : (dd x).length ≤ k) (hy : (dd y).length ≤ k) : (dd (x + y)).length ≤ k + 1 := by
  have h1 := dd_lt_of hx
  have h2 := dd_lt_of hy
  refine dd_len_le (by omega) ?_
  rw [Nat.pow_succ]
  omega
theorem dd_mul {x y k l : Nat} (hx : (dd x).length ≤ k) (hy : (dd y).length ≤ l) : (dd (x * y)).length ≤ k + l := by
  have h0 := dd_pos x
  refine dd_len_le (by omega) ?_
  rw [Nat.pow_add]
  have h1 := dd_lt_of hx
  have h2 := dd_lt_of hy
  exact Nat.lt_of_le_of_lt (Nat.mul_le_mul_left _ (Nat.le_of_lt h2)) (Nat.mul_lt_mul_of_pos_right h1 (Nat.pow_pos (by decide)))
/-- A number as a result: its numeral, if it is not too long. -/
def limS (n : Nat) : List UInt8 := if (dd n).length ≤ 1000 then dd n else []
def limE (n : Nat) : Int := if (dd n).length ≤ 1000 then 0 else 2
theorem limS_ok {n : Nat} (h : (dd n).length ≤ 1000) : limS n = dd n := if_pos h
theorem limE_ok {n : Nat} (h : (dd n).length ≤ 1000) : limE n = 0 := if_pos h
theorem limS_no {n : Nat} (h : ¬ (dd n).length ≤ 1000) : limS n = [] := if_neg h
theorem limE_no {n : Nat} (h : ¬ (dd n).length ≤ 1000) : limE n = 2 := if_neg h
end Go.Proofs.YtfeegacmmfgjfaaGreatDoorM

/-!  Plain: cutting strings; the text of a rational number. -/
set_option linter.unusedVariables false
namespace Go.Proofs.YtfeegacmmfgjfaaGreatDoorM
open Go.Lib
def cut1 (c : UInt8) : List UInt8 → List UInt8 × List UInt8 × Bool
  | [] => ([], [], false)
  | b :: l => if b = c then ([], l, true) else (b :: (cut1 c l).1, (cut1 c l).2.1, (cut1 c l).2.2)
theorem cut1_yes {c : UInt8} {s : List UInt8} (h : (cut1 c s).2.2 = true) : indexByte s c = (cut1 c s).1.length ∧ s = (cut1 c s).1 ++ c :: (cut1 c s).2.1 := by
  induction s with
  | nil => simp [cut1] at h
  | cons b l ih =>
    simp only [cut1] at h ⊢
    by_cases hb : b = c
    · subst hb
      simp [indexByte]
    · rw [if_neg hb] at h ⊢
      obtain ⟨h1, h2⟩ := ih h
      refine ⟨?_, by simp only [List.cons_append]; rw [← h2]⟩
      have h3 : (b == c) = false := by simpa using hb
      simp only [indexByte, h3, h1, List.length_cons]
      rw [if_neg (by simp), if_neg (by simp)]
      omega
theorem cut1_no {c : UInt8} {s : List UInt8} (h : (cut1 c s).2.2 = false) : indexByte s c = -1 ∧ (cut1 c s).1 = s ∧ (cut1 c s).2.1 = [] ∧ c ∉ s := by
  induction s with
  | nil => simp [cut1, indexByte]
  | cons b l ih =>
    simp only [cut1] at h ⊢
    by_cases hb : b = c
    · rw [if_pos hb] at h; cases h
    · rw [if_neg hb] at h ⊢
      obtain ⟨h1, h2, h3, h4⟩ := ih h
      have h5 : (b == c) = false := by simpa using hb
      refine ⟨by simp [indexByte, h5, h1], by simp [h2], h3, ?_⟩
      simp only [List.mem_cons, not_or]
      exact ⟨fun e => hb e.symm, h4⟩
theorem cut1_at {c : UInt8} {a b : List UInt8} (h : c ∉ a) : cut1 c (a ++ c :: b) = (a, b, true) := by
  induction a with
  | nil => simp [cut1]
  | cons x r ih =>
    simp only [List.mem_cons, not_or] at h
    simp only [List.cons_append, cut1]
    rw [if_neg (fun e => h.1 e.symm), ih h.2]
theorem cut1_none {c : UInt8} {a : List UInt8} (h : c ∉ a) : cut1 c a = (a, [], false) := by
  induction a with
  | nil => simp [cut1]
  | cons x r ih =>
    simp only [List.mem_cons, not_or] at h
    simp only [cut1]
    rw [if_neg (fun e => h.1 e.symm), ih h.2]
def pre1 (c : UInt8) : List UInt8 → List UInt8 × Bool
  | [] => ([], false)
  | b :: l => if b = c then (l, true) else (b :: l, false)
theorem dd_notin (n : Nat) {c : UInt8} (h : isDig c = false) : c ∉ dd n := fun hm => by rw [dd_dig n c hm] at h; cases h
/-- The text of a rational number. -/
def qtxt (q : Rat) : List UInt8 := (if q.num < 0 then [45] else []) ++ (dd q.num.natAbs ++ (if q.den = 1 then [] else 47 :: dd q.den))
structure Short (q : Rat) : Prop where
  num : (dd q.num.natAbs).length ≤ 400
  den : (dd q.den).length ≤ 400
theorem pre1_q (q : Rat) : pre1 45 (qtxt q) = (dd q.num.natAbs ++ (if q.den = 1 then [] else 47 :: dd q.den), decide (q.num < 0)) := by
  unfold qtxt
  by_cases h : q.num < 0
  · rw [if_pos h, decide_eq_true h]; simp [pre1]
  · rw [if_neg h, decide_eq_false h, List.nil_append]
    obtain ⟨c, r, e⟩ : ∃ c r, dd q.num.natAbs = c :: r := List.exists_cons_of_ne_nil (dd_ne _)
    have hd := dd_dig q.num.natAbs c (by rw [e]; simp)
    rw [e, List.cons_append]
    simp only [pre1]
    rw [if_neg]
    rintro rfl
    revert hd; decide
theorem cut1_q (q : Rat) : cut1 47 (dd q.num.natAbs ++ (if q.den = 1 then [] else 47 :: dd q.den)) = (dd q.num.natAbs, if q.den = 1 then [] else dd q.den, !decide (q.den = 1)) := by
  have hn : (47 : UInt8) ∉ dd q.num.natAbs := dd_notin _ (by decide)
  by_cases h : q.den = 1
  · rw [if_pos h, if_pos h, decide_eq_true h, List.append_nil, cut1_none hn]; rfl
  · rw [if_neg h, if_neg h, decide_eq_false h, cut1_at hn]; rfl
end Go.Proofs.YtfeegacmmfgjfaaGreatDoorM

/-!  Numbers and their digits. -/
set_option linter.unusedVariables false
namespace Go.Proofs.YtfeegacmmfgjfaaGreatDoorM
/-- A number whose numerator and denominator have at most n digits. -/
structure Dg (n : Nat) (q : Rat) : Prop where
  num : (dd q.num.natAbs).length ≤ n
  den : (dd q.den).length ≤ n
theorem Dg.mono {m n : Nat} {q : Rat} (h : Dg m q) (hmn : m ≤ n) : Dg n q := ⟨Nat.le_trans h.1 hmn, Nat.le_trans h.2 hmn⟩
theorem Dg.short {n : Nat} {q : Rat} (h : Dg n q) (hn : n ≤ 400) : Short q := ⟨Nat.le_trans h.1 hn, Nat.le_trans h.2 hn⟩
theorem Dg.norm {n : Nat} {z : Int} {d : Nat} (hd : d ≠ 0) (h1 : (dd z.natAbs).length ≤ n) (h2 : (dd d).length ≤ n) : Dg n (Rat.normalize z d hd) := by
  have hg : 0 < Nat.gcd z.natAbs d := Nat.gcd_pos_of_pos_right _ (by omega)
  have hdv : ((Nat.gcd z.natAbs d : Nat) : Int) ∣ z := by
    rw [← Int.natAbs_dvd_natAbs, Int.natAbs_natCast]
    exact Nat.gcd_dvd_left _ _
  rw [Rat.normalize_eq]
  refine ⟨Nat.le_trans (dd_mono ?_) h1, Nat.le_trans (dd_mono (Nat.div_le_self _ _)) h2⟩
  show (z / ((Nat.gcd z.natAbs d : Nat) : Int)).natAbs ≤ z.natAbs
  generalize Nat.gcd z.natAbs d = g at *
  obtain ⟨c, rfl⟩ := hdv
  rw [Int.mul_ediv_cancel_left _ (by omega), Int.natAbs_mul, Int.natAbs_natCast]
  exact Nat.le_mul_of_pos_left _ hg
theorem Dg.mul {a b : Nat} {p q : Rat} (hp : Dg a p) (hq : Dg b q) : Dg (a + b) (p * q) := by
  rw [Rat.mul_def]
  refine .norm _ ?_ (dd_mul hp.2 hq.2)
  rw [Int.natAbs_mul]
  exact dd_mul hp.1 hq.1
theorem Dg.add {a b : Nat} {p q : Rat} (hp : Dg a p) (hq : Dg b q) : Dg (a + b + 1) (p + q) := by
  rw [Rat.add_def]
  refine .norm _ ?_ (Nat.le_trans (dd_mul hp.2 hq.2) (by omega))
  have h : (p.num * q.den + q.num * p.den).natAbs ≤ p.num.natAbs * q.den + q.num.natAbs * p.den := by
    refine Nat.le_trans (Int.natAbs_add_le _ _) ?_
    rw [Int.natAbs_mul, Int.natAbs_mul, Int.natAbs_natCast, Int.natAbs_natCast]
    exact Nat.le_refl _
  refine Nat.le_trans (dd_mono h) (dd_add (dd_mul hp.1 hq.2) ?_)
  rw [Nat.add_comm]
  exact dd_mul hq.1 hp.2
theorem Dg.inv {a : Nat} {q : Rat} (hq : Dg a q) (h0 : q.num ≠ 0) : Dg a q⁻¹ := by
  rw [Rat.inv_def]
  have h3 : q.num.natAbs ≠ 0 := by omega
  have h1 : Rat.divInt q.den q.num = Rat.normalize (if q.num < 0 then -(q.den : Int) else q.den) q.num.natAbs (by omega) := by
    by_cases hn : q.num < 0
    · rw [if_pos hn]
      have h2 : q.num = -(q.num.natAbs : Int) := by omega
      conv => lhs; rw [h2]
      rw [Rat.divInt_neg', Rat.divInt_ofNat]
      exact (Rat.normalize_eq_mkRat h3).symm
    · rw [if_neg hn]
      have h2 : q.num = (q.num.natAbs : Int) := by omega
      conv => lhs; rw [h2]
      rw [Rat.divInt_ofNat]
      exact (Rat.normalize_eq_mkRat h3).symm
  rw [h1]
  refine .norm _ ?_ hq.1
  split <;> simp [hq.2]
theorem Dg.div {a b : Nat} {p q : Rat} (hp : Dg a p) (hq : Dg b q) (h0 : q.num ≠ 0) : Dg (a + b) (p / q) := by
  rw [Rat.div_def]
  exact hp.mul (hq.inv h0)
theorem Dg.nat {n k : Nat} (hk : 0 < k) (h : n < 10 ^ k) : Dg k (n : Rat) := by
  refine ⟨?_, ?_⟩
  · show (dd ((n : Rat).num).natAbs).length ≤ k
    rw [Rat.num_natCast, Int.natAbs_natCast]
    exact dd_len_le hk h
  · show (dd ((n : Rat).den)).length ≤ k
    rw [Rat.den_natCast]
    exact dd_len_le hk (Nat.one_lt_pow (by omega) (by decide))
theorem dd_inj {a b : Nat} (h : dd a = dd b) : a = b := by
  have := congrArg dval h
  rwa [dval_dd, dval_dd] at this
theorem qtxt_inj {p q : Rat} (h : qtxt p = qtxt q) : p = q := by
  have h1 := pre1_q p
  rw [h, pre1_q q] at h1
  simp only [Prod.mk.injEq] at h1
  obtain ⟨h1, h2⟩ := h1
  have h3 := cut1_q p
  rw [← h1, cut1_q q] at h3
  simp only [Prod.mk.injEq] at h3
  obtain ⟨h3, h4, h5⟩ := h3
  have hn := dd_inj h3
  have hd : p.den = q.den := by
    by_cases hp : p.den = 1
    · by_cases hq : q.den = 1
      · omega
      · rw [hp] at h5; simp [hq] at h5
    · by_cases hq : q.den = 1
      · rw [hq] at h5; simp [hp] at h5
      · rw [if_neg hp, if_neg hq] at h4; exact (dd_inj h4).symm
  have hneg : q.num < 0 ↔ p.num < 0 := decide_eq_decide.1 h2
  exact Rat.ext (by omega) hd
theorem qtxt_zero_ : qtxt 0 = [48] := by decide +kernel
theorem qtxt_one_ : qtxt 1 = [49] := by decide +kernel
end Go.Proofs.YtfeegacmmfgjfaaGreatDoorM

/-!  Strings in their order; counts. -/
set_option linter.unusedVariables false
namespace Go.Proofs.YtfeegacmmfgjfaaGreatDoorM
abbrev Str := List UInt8
/-- A name. -/
def isNm (s : Str) : Bool := decide (s ≠ []) && decide (s.length ≤ 40)
/-- The order of strings, byte by byte. -/
def lts : Str → Str → Bool
  | _, [] => false
  | [], _ :: _ => true
  | a :: r, b :: s => decide (a.toNat < b.toNat) || (decide (a.toNat = b.toNat) && lts r s)
def cmps (a b : Str) : Int := if lts a b = true then -1 else if lts b a = true then 1 else 0
theorem lts_irrefl (a : Str) : lts a a = false := by
  induction a with
  | nil => rfl
  | cons x r ih => simp [lts, ih]
theorem lts_trans : ∀ {a b c : Str}, lts a b = true → lts b c = true → lts a c = true
  | _, [], _, h, _ => by cases ‹Str› <;> simp [lts] at h
  | _, _ :: _, [], _, h => by simp [lts] at h
  | [], _ :: _, _ :: _, _, _ => rfl
  | x :: a, y :: b, z :: c, h, h' => by
    simp only [lts, Bool.or_eq_true, Bool.and_eq_true, decide_eq_true_eq] at h h' ⊢
    rcases h with h | ⟨h, h2⟩
    · rcases h' with h' | ⟨h', _⟩
      · exact .inl (by omega)
      · exact .inl (by omega)
    · rcases h' with h' | ⟨h', h3⟩
      · exact .inl (by omega)
      · exact .inr ⟨by omega, lts_trans h2 h3⟩
theorem lts_tri : ∀ {a b : Str}, lts a b = false → lts b a = false → a = b
  | [], [], _, _ => rfl
  | [], _ :: _, h, _ => by simp [lts] at h
  | _ :: _, [], _, h => by simp [lts] at h
  | x :: a, y :: b, h, h' => by
    simp only [lts, Bool.or_eq_false_iff, Bool.and_eq_false_iff, decide_eq_false_iff_not] at h h'
    have hxy : x.toNat = y.toNat := by omega
    have h2 : lts a b = false := by rcases h.2 with h2 | h2; exact absurd hxy h2; exact h2
    have h3 : lts b a = false := by rcases h'.2 with h2 | h2; exact absurd hxy.symm h2; exact h2
    rw [UInt8.toNat_inj.1 hxy, lts_tri h2 h3]
theorem lts_asym {a b : Str} (h : lts a b = true) : lts b a = false := by
  cases hb : lts b a with
  | false => rfl
  | true => have := lts_trans h hb; rw [lts_irrefl] at this; cases this
theorem cmps_lt {a b : Str} : cmps a b < 0 ↔ lts a b = true := by
  unfold cmps
  split
  · rename_i h; simp [h]
  · rename_i h; split <;> simp [h]
theorem cmps_eq {a b : Str} : cmps a b = 0 ↔ a = b := by
  unfold cmps
  constructor
  · intro h
    split at h
    · cases h
    · rename_i h1
      split at h
      · cases h
      · rename_i h2; exact lts_tri (by simpa using h1) (by simpa using h2)
  · rintro rfl; simp [lts_irrefl]
/-- A count: A, B, N. -/
abbrev Cnt := Str × Str × Int
/-- The order of counts. -/
def ccmp (x y : Cnt) : Int := if cmps x.1 y.1 ≠ 0 then cmps x.1 y.1 else cmps x.2.1 y.2.1
def ltk (x y : Str × Str) : Bool := lts x.1 y.1 || (decide (x.1 = y.1) && lts x.2 y.2)
def key (x : Cnt) : Str × Str := (x.1, x.2.1)
theorem ccmp_lt (x y : Cnt) : decide (ccmp x y < 0) = ltk (key x) (key y) := by
  unfold ccmp ltk key
  by_cases h : x.1 = y.1
  · rw [if_neg (by rw [cmps_eq.2 h]; simp), h, lts_irrefl]
    simp only [Bool.false_or, decide_true, Bool.true_and]
    have := @cmps_lt x.2.1 y.2.1
    cases hl : lts x.2.1 y.2.1 with
    | true => rw [hl] at this; simpa using this
    | false => rw [hl] at this; simpa using this
  · rw [if_pos (fun e => h (cmps_eq.1 e))]
    simp only [h, decide_false, Bool.false_and, Bool.or_false]
    have := @cmps_lt x.1 y.1
    cases hl : lts x.1 y.1 with
    | true => rw [hl] at this; simpa using this
    | false => rw [hl] at this; simpa using this
theorem ltk_irrefl (x : Str × Str) : ltk x x = false := by simp [ltk, lts_irrefl]
theorem ltk_trans {x y z : Str × Str} (h : ltk x y = true) (h' : ltk y z = true) : ltk x z = true := by
  simp only [ltk, Bool.or_eq_true, Bool.and_eq_true, decide_eq_true_eq] at *
  rcases h with h | ⟨h, h2⟩
  · rcases h' with h' | ⟨h', _⟩
    · exact .inl (lts_trans h h')
    · exact .inl (h' ▸ h)
  · rcases h' with h' | ⟨h', h3⟩
    · exact .inl (h ▸ h')
    · exact .inr ⟨h.trans h', lts_trans h2 h3⟩
theorem ltk_tri {x y : Str × Str} (h : ltk x y = false) (h' : ltk y x = false) : x = y := by
  simp only [ltk, Bool.or_eq_false_iff, Bool.and_eq_false_iff, decide_eq_false_iff_not] at *
  have h1 := lts_tri h.1 h'.1
  have h2 : lts x.2 y.2 = false := by rcases h.2 with h2 | h2; exact absurd h1 h2; exact h2
  have h3 : lts y.2 x.2 = false := by rcases h'.2 with h2 | h2; exact absurd h1.symm h2; exact h2
  exact Prod.ext h1 (lts_tri h2 h3)
theorem ltk_asym {a b : Str × Str} (h : ltk a b = true) : ltk b a = false := by
  cases hb : ltk b a with
  | false => rfl
  | true => have := ltk_trans h hb; rw [ltk_irrefl] at this; cases this
theorem ltk_ntrans {x y z : Str × Str} (h : ltk x y = false) (h' : ltk y z = false) : ltk x z = false := by
  cases hz : ltk x z with
  | false => rfl
  | true =>
    exfalso
    cases hy : ltk y x with
    | true => have := ltk_trans hy hz; rw [this] at h'; cases h'
    | false => have := ltk_tri h hy; subst this; rw [hz] at h'; cases h'
end Go.Proofs.YtfeegacmmfgjfaaGreatDoorM

/-!  Package nat. -/
set_option linter.unusedVariables false
set_option maxRecDepth 10000
namespace Go.Proofs.YtfeegacmmfgjfaaGreatDoorX
open Go Go.RowKit Go.Proofs Go.Proofs.YtfeegacmmfgjfaaGreatDoorM

theorem nat_Valid (a : List UInt8) (w : World) (ha : a.length ≤ 9223372036854775807) : Ret Tryz.prog 76 #[.string (str a)] w fun v w' => v = .bool (isNat a) ∧ w' = w := by
  refine fn_ret tok Tryz.func76 (by kernel_rfl) rfl rfl ?_
  (conv => whnf)
  refine condP_str (b := []) (fun h => ?_) (fun h0 => ?_)
  · (repeat ((conv => whnf); first | refine numP_i64 (by omega) ?_ | refine numP_u64 (by omega) ?_ | refine numP_u8 (by omega) ?_ | refine Exists.intro _ (And.intro ‹_› ?_) | refine Exists.intro _ (And.intro rfl ?_) | refine And.intro (by omega) (Exists.intro _ (And.intro rfl ?_)) | refine And.intro (by omega) ?_)); (conv => whnf)
    subst h
    exact ⟨rfl, rfl⟩
  have hs : ((str a).size : Int) = a.length := rfl
  have hp : 0 < a.length := List.length_pos_iff.2 h0
  (conv => whnf)
  refine condP_dec (fun h => ?_) (fun h => ?_)
  · (repeat ((conv => whnf); first | refine numP_i64 (by omega) ?_ | refine numP_u64 (by omega) ?_ | refine numP_u8 (by omega) ?_ | refine Exists.intro _ (And.intro ‹_› ?_) | refine Exists.intro _ (And.intro rfl ?_) | refine And.intro (by omega) (Exists.intro _ (And.intro rfl ?_)) | refine And.intro (by omega) ?_)); (conv => whnf)
    exact ⟨by rw [isNat_long (by omega)], rfl⟩
  (conv => whnf)
  refine condP_dec (fun h2 => ?_) (fun h2 => ?_)
  · (repeat ((conv => whnf); first | refine numP_i64 (by omega) ?_ | refine numP_u64 (by omega) ?_ | refine numP_u8 (by omega) ?_ | refine Exists.intro _ (And.intro ‹_› ?_) | refine Exists.intro _ (And.intro rfl ?_) | refine And.intro (by omega) (Exists.intro _ (And.intro rfl ?_)) | refine And.intro (by omega) ?_)); (conv => whnf)
    refine condP_dec (fun h3 => ?_) (fun h3 => ?_)
    · (repeat ((conv => whnf); first | refine numP_i64 (by omega) ?_ | refine numP_u64 (by omega) ?_ | refine numP_u8 (by omega) ?_ | refine Exists.intro _ (And.intro ‹_› ?_) | refine Exists.intro _ (And.intro rfl ?_) | refine And.intro (by omega) (Exists.intro _ (And.intro rfl ?_)) | refine And.intro (by omega) ?_)); (conv => whnf)
      exact ⟨by rw [isNat_zero (by omega) (by rw [byteAt_str] at h3; exact Int.ofNat.inj h3)], rfl⟩
    have hz : 1 < a.length → (a.getD 0 0).toNat ≠ 48 := fun _ e => h3 (by rw [byteAt_str]; exact congrArg Int.ofNat e)
    (conv => whnf)
    refine loop_rule tok [23] [0, 22] (fun vs w' => ∃ i : Nat, vs = [.int .i64 i] ∧ i ≤ a.length ∧ (∀ j, j < i → isDig (a.getD j 0) = true) ∧ w' = w) (fun vs w => match vs with | [.int _ i] => a.length - i.toNat | _ => 0) ?_
    (conv => whnf)
    refine ⟨?_, ?_⟩
    · (conv => whnf)
      exact ⟨0, rfl, by omega, fun j hj => by omega, rfl⟩
    rintro _ _ ⟨i, rfl, hi, hd, rfl⟩
    (conv => whnf)
    refine condP_dec (fun h => ?_) (fun h => ?_)
    · have hb : byteAt (str a) (i : Int) = ((a.getD i 0).toNat : Int) := byteAt_str a i
      (repeat ((conv => whnf); first | refine numP_i64 (by omega) ?_ | refine numP_u64 (by omega) ?_ | refine numP_u8 (by omega) ?_ | refine Exists.intro _ (And.intro ‹_› ?_) | refine Exists.intro _ (And.intro rfl ?_) | refine And.intro (by omega) (Exists.intro _ (And.intro rfl ?_)) | refine And.intro (by omega) ?_)); (conv => whnf)
      rw [hb]
      refine condP_dec (fun h4 => ?_) (fun h4 => ?_)
      · (repeat ((conv => whnf); first | refine numP_i64 (by omega) ?_ | refine numP_u64 (by omega) ?_ | refine numP_u8 (by omega) ?_ | refine Exists.intro _ (And.intro ‹_› ?_) | refine Exists.intro _ (And.intro rfl ?_) | refine And.intro (by omega) (Exists.intro _ (And.intro rfl ?_)) | refine And.intro (by omega) ?_)); (conv => whnf)
        exact ⟨by rw [isNat_not (i := i) (by omega) (by unfold isDig; rw [decide_eq_false (by omega)]; rfl)], rfl⟩
      (repeat ((conv => whnf); first | refine numP_i64 (by omega) ?_ | refine numP_u64 (by omega) ?_ | refine numP_u8 (by omega) ?_ | refine Exists.intro _ (And.intro ‹_› ?_) | refine Exists.intro _ (And.intro rfl ?_) | refine And.intro (by omega) (Exists.intro _ (And.intro rfl ?_)) | refine And.intro (by omega) ?_)); (conv => whnf)
      rw [hb]
      refine condP_dec (fun h5 => ?_) (fun h5 => ?_)
      · (repeat ((conv => whnf); first | refine numP_i64 (by omega) ?_ | refine numP_u64 (by omega) ?_ | refine numP_u8 (by omega) ?_ | refine Exists.intro _ (And.intro ‹_› ?_) | refine Exists.intro _ (And.intro rfl ?_) | refine And.intro (by omega) (Exists.intro _ (And.intro rfl ?_)) | refine And.intro (by omega) ?_)); (conv => whnf)
        exact ⟨by rw [isNat_not (i := i) (by omega) (by unfold isDig; rw [decide_eq_false (show ¬ _ ≤ 57 by omega)]; simp)], rfl⟩
      (repeat ((conv => whnf); first | refine numP_i64 (by omega) ?_ | refine numP_u64 (by omega) ?_ | refine numP_u8 (by omega) ?_ | refine Exists.intro _ (And.intro ‹_› ?_) | refine Exists.intro _ (And.intro rfl ?_) | refine And.intro (by omega) (Exists.intro _ (And.intro rfl ?_)) | refine And.intro (by omega) ?_)); (conv => whnf)
      refine ⟨⟨rfl, rfl⟩, ⟨i + 1, rfl, by omega, fun j hj => ?_, rfl⟩, by simp; omega⟩
      rcases Nat.lt_or_ge j i with hlt | hge
      · exact hd j hlt
      · obtain rfl : j = i := by omega
        unfold isDig
        rw [decide_eq_true (by omega), decide_eq_true (by omega)]; rfl
    · (repeat ((conv => whnf); first | refine numP_i64 (by omega) ?_ | refine numP_u64 (by omega) ?_ | refine numP_u8 (by omega) ?_ | refine Exists.intro _ (And.intro ‹_› ?_) | refine Exists.intro _ (And.intro rfl ?_) | refine And.intro (by omega) (Exists.intro _ (And.intro rfl ?_)) | refine And.intro (by omega) ?_)); (conv => whnf)
      exact ⟨by rw [isNat_yes h0 (by omega) hz (fun j hj => hd j (by omega))], rfl⟩
  · have hz : 1 < a.length → (a.getD 0 0).toNat ≠ 48 := fun h => absurd h (by omega)
    (repeat ((conv => whnf); first | refine numP_i64 (by omega) ?_ | refine numP_u64 (by omega) ?_ | refine numP_u8 (by omega) ?_ | refine Exists.intro _ (And.intro ‹_› ?_) | refine Exists.intro _ (And.intro rfl ?_) | refine And.intro (by omega) (Exists.intro _ (And.intro rfl ?_)) | refine And.intro (by omega) ?_)); (conv => whnf)
    refine loop_rule tok [23] [0, 22] (fun vs w' => ∃ i : Nat, vs = [.int .i64 i] ∧ i ≤ a.length ∧ (∀ j, j < i → isDig (a.getD j 0) = true) ∧ w' = w) (fun vs w => match vs with | [.int _ i] => a.length - i.toNat | _ => 0) ?_
    (conv => whnf)
    refine ⟨?_, ?_⟩
    · (conv => whnf)
      exact ⟨0, rfl, by omega, fun j hj => by omega, rfl⟩
    rintro _ _ ⟨i, rfl, hi, hd, rfl⟩
    (conv => whnf)
    refine condP_dec (fun h => ?_) (fun h => ?_)
    · have hb : byteAt (str a) (i : Int) = ((a.getD i 0).toNat : Int) := byteAt_str a i
      (repeat ((conv => whnf); first | refine numP_i64 (by omega) ?_ | refine numP_u64 (by omega) ?_ | refine numP_u8 (by omega) ?_ | refine Exists.intro _ (And.intro ‹_› ?_) | refine Exists.intro _ (And.intro rfl ?_) | refine And.intro (by omega) (Exists.intro _ (And.intro rfl ?_)) | refine And.intro (by omega) ?_)); (conv => whnf)
      rw [hb]
      refine condP_dec (fun h4 => ?_) (fun h4 => ?_)
      · (repeat ((conv => whnf); first | refine numP_i64 (by omega) ?_ | refine numP_u64 (by omega) ?_ | refine numP_u8 (by omega) ?_ | refine Exists.intro _ (And.intro ‹_› ?_) | refine Exists.intro _ (And.intro rfl ?_) | refine And.intro (by omega) (Exists.intro _ (And.intro rfl ?_)) | refine And.intro (by omega) ?_)); (conv => whnf)
        exact ⟨by rw [isNat_not (i := i) (by omega) (by unfold isDig; rw [decide_eq_false (by omega)]; rfl)], rfl⟩
      (repeat ((conv => whnf); first | refine numP_i64 (by omega) ?_ | refine numP_u64 (by omega) ?_ | refine numP_u8 (by omega) ?_ | refine Exists.intro _ (And.intro ‹_› ?_) | refine Exists.intro _ (And.intro rfl ?_) | refine And.intro (by omega) (Exists.intro _ (And.intro rfl ?_)) | refine And.intro (by omega) ?_)); (conv => whnf)
      rw [hb]
      refine condP_dec (fun h5 => ?_) (fun h5 => ?_)
      · (repeat ((conv => whnf); first | refine numP_i64 (by omega) ?_ | refine numP_u64 (by omega) ?_ | refine numP_u8 (by omega) ?_ | refine Exists.intro _ (And.intro ‹_› ?_) | refine Exists.intro _ (And.intro rfl ?_) | refine And.intro (by omega) (Exists.intro _ (And.intro rfl ?_)) | refine And.intro (by omega) ?_)); (conv => whnf)
        exact ⟨by rw [isNat_not (i := i) (by omega) (by unfold isDig; rw [decide_eq_false (show ¬ _ ≤ 57 by omega)]; simp)], rfl⟩
      (repeat ((conv => whnf); first | refine numP_i64 (by omega) ?_ | refine numP_u64 (by omega) ?_ | refine numP_u8 (by omega) ?_ | refine Exists.intro _ (And.intro ‹_› ?_) | refine Exists.intro _ (And.intro rfl ?_) | refine And.intro (by omega) (Exists.intro _ (And.intro rfl ?_)) | refine And.intro (by omega) ?_)); (conv => whnf)
      refine ⟨⟨rfl, rfl⟩, ⟨i + 1, rfl, by omega, fun j hj => ?_, rfl⟩, by simp; omega⟩
      rcases Nat.lt_or_ge j i with hlt | hge
      · exact hd j hlt
      · obtain rfl : j = i := by omega
        unfold isDig
        rw [decide_eq_true (by omega), decide_eq_true (by omega)]; rfl
    · (repeat ((conv => whnf); first | refine numP_i64 (by omega) ?_ | refine numP_u64 (by omega) ?_ | refine numP_u8 (by omega) ?_ | refine Exists.intro _ (And.intro ‹_› ?_) | refine Exists.intro _ (And.intro rfl ?_) | refine And.intro (by omega) (Exists.intro _ (And.intro rfl ?_)) | refine And.intro (by omega) ?_)); (conv => whnf)
      exact ⟨by rw [isNat_yes h0 (by omega) hz (fun j hj => hd j (by omega))], rfl⟩

theorem dec_refl {α : Type} (x : α) : bnot (dec (x = x)) = false := by rw [dec_true rfl, bnot_eq]; rfl
theorem cmp_isNaN_u (x : Int) (w : World) : Ret Tryz.prog 176 #[.int .u64 x] w fun v w' => v = .bool false ∧ w' = w := by
  refine fn_ret tok Tryz.func176 (by kernel_rfl) rfl rfl ?_
  (conv => whnf)
  exact ⟨by rw [dec_refl], rfl⟩
theorem cmp_isNaN_i (x : Int) (w : World) : Ret Tryz.prog 136 #[.int .i64 x] w fun v w' => v = .bool false ∧ w' = w := by
  refine fn_ret tok Tryz.func136 (by kernel_rfl) rfl rfl ?_
  (conv => whnf)
  exact ⟨by rw [dec_refl], rfl⟩
def cmpZ (a b : Int) : Int := if a < b then -1 else if b < a then 1 else 0
theorem cmp_Compare_u (a b : Int) (w : World) : Ret Tryz.prog 152 #[.int .u64 a, .int .u64 b] w fun v w' => v = .int .i64 (cmpZ a b) ∧ w' = w := by
  have cmp_NAN := cmp_isNaN_u
  refine fn_ret tok Tryz.func152 (by kernel_rfl) rfl rfl ?_
  (conv => whnf)
  refine (cmp_NAN _ _).call ?_
  rintro _ _ ⟨rfl, rfl⟩
  (conv => whnf)
  refine (cmp_NAN _ _).call ?_
  rintro _ _ ⟨rfl, rfl⟩
  (conv => whnf)
  refine condP_dec (fun h => ?_) (fun h => ?_)
  · (conv => whnf)
    exact ⟨by unfold cmpZ; rw [if_pos h], rfl⟩
  (conv => whnf)
  refine condP_dec (fun h2 => ?_) (fun h2 => ?_)
  · (conv => whnf)
    exact ⟨by unfold cmpZ; rw [if_neg h, if_pos h2], rfl⟩
  · (conv => whnf)
    exact ⟨by unfold cmpZ; rw [if_neg h, if_neg h2], rfl⟩
theorem cmp_Compare_i (a b : Int) (w : World) : Ret Tryz.prog 102 #[.int .i64 a, .int .i64 b] w fun v w' => v = .int .i64 (cmpZ a b) ∧ w' = w := by
  have cmp_NAN := cmp_isNaN_i
  refine fn_ret tok Tryz.func102 (by kernel_rfl) rfl rfl ?_
  (conv => whnf)
  refine (cmp_NAN _ _).call ?_
  rintro _ _ ⟨rfl, rfl⟩
  (conv => whnf)
  refine (cmp_NAN _ _).call ?_
  rintro _ _ ⟨rfl, rfl⟩
  (conv => whnf)
  refine condP_dec (fun h => ?_) (fun h => ?_)
  · (conv => whnf)
    exact ⟨by unfold cmpZ; rw [if_pos h], rfl⟩
  (conv => whnf)
  refine condP_dec (fun h2 => ?_) (fun h2 => ?_)
  · (conv => whnf)
    exact ⟨by unfold cmpZ; rw [if_neg h, if_pos h2], rfl⟩
  · (conv => whnf)
    exact ⟨by unfold cmpZ; rw [if_neg h, if_neg h2], rfl⟩
theorem cmpZ_nat (a b : Nat) : cmpZ a b = cmpN a b := by unfold cmpZ cmpN; simp only [Int.ofNat_lt]
theorem nat_trim (S : Nat → Prop) (A : Option Addr) (n c : Nat) (xs : List Nat) (w : World) (h : SlR kU S w (.slice A n c) xs) : Ret Tryz.prog 83 #[.slice A n c] w fun v w' => v = .slice A (trimL xs).length c ∧ w' = w := by
  obtain ⟨rfl, hc1, hc2⟩ := h.len
  refine fn_ret tok Tryz.func83 (by kernel_rfl) rfl rfl ?_
  (conv => whnf)
  refine loop_rule tok [0] [2] (fun vs w' => ∃ m : Nat, vs = [.slice A m c] ∧ m ≤ xs.length ∧ (∀ j, m ≤ j → j < xs.length → xs.getD j 0 = 0) ∧ w' = w) (fun vs w => match vs with | [.slice _ m _] => m | _ => 0) ?_
  (conv => whnf)
  refine ⟨?_, ?_⟩
  · (conv => whnf)
    exact ⟨_, rfl, Nat.le_refl _, fun j h1 h2 => by omega, rfl⟩
  rintro _ _ ⟨m, rfl, hm, hz, rfl⟩
  have hend : (m = 0 ∨ xs.getD (m - 1) 0 ≠ 0) → (trimL xs).length = m := fun hl => by rw [trimL_eq hm hz hl, List.length_take, Nat.min_eq_left hm]
  (conv => whnf)
  refine condP_dec (fun h1 => ?_) (fun h1 => ?_)
  · obtain ⟨ad, rfl, hcell⟩ := h.u ((m : Int) - 1) (by omega) (by omega)
    (repeat ((conv => whnf); first | refine numP_i64 (by omega) ?_ | refine numP_u64 (by omega) ?_ | refine numP_u8 (by omega) ?_ | refine Exists.intro _ (And.intro ‹_› ?_) | refine Exists.intro _ (And.intro rfl ?_) | refine And.intro (by omega) (Exists.intro _ (And.intro rfl ?_)) | refine And.intro (by omega) ?_)); (conv => whnf)
    refine condP_dec (fun h2 => ?_) (fun h2 => ?_)
    · (repeat ((conv => whnf); first | refine numP_i64 (by omega) ?_ | refine numP_u64 (by omega) ?_ | refine numP_u8 (by omega) ?_ | refine Exists.intro _ (And.intro ‹_› ?_) | refine Exists.intro _ (And.intro rfl ?_) | refine And.intro (by omega) (Exists.intro _ (And.intro rfl ?_)) | refine And.intro (by omega) ?_)); (conv => whnf)
      refine ⟨⟨rfl, rfl⟩, ⟨m - 1, by rw [show ((m : Int) - 1).toNat = m - 1 by omega], by omega, fun j h3 h4 => ?_, rfl⟩, by simp; omega⟩
      by_cases h5 : j = m - 1
      · subst h5; rw [show ((m : Int) - 1).toNat = m - 1 by omega] at h2; omega
      · exact hz j (by omega) h4
    · (repeat ((conv => whnf); first | refine numP_i64 (by omega) ?_ | refine numP_u64 (by omega) ?_ | refine numP_u8 (by omega) ?_ | refine Exists.intro _ (And.intro ‹_› ?_) | refine Exists.intro _ (And.intro rfl ?_) | refine And.intro (by omega) (Exists.intro _ (And.intro rfl ?_)) | refine And.intro (by omega) ?_)); (conv => whnf)
      exact ⟨by rw [hend (.inr (by rw [show ((m : Int) - 1).toNat = m - 1 by omega] at h2; omega))], rfl⟩
  · (repeat ((conv => whnf); first | refine numP_i64 (by omega) ?_ | refine numP_u64 (by omega) ?_ | refine numP_u8 (by omega) ?_ | refine Exists.intro _ (And.intro ‹_› ?_) | refine Exists.intro _ (And.intro rfl ?_) | refine And.intro (by omega) (Exists.intro _ (And.intro rfl ?_)) | refine And.intro (by omega) ?_)); (conv => whnf)
    exact ⟨by rw [hend (.inl (by omega))], rfl⟩

theorem nat_blocks (a : List UInt8) (w : World) (hd : ∀ c ∈ a, isDig c = true) (ha : a.length ≤ 1000) : Ret Tryz.prog 81 #[.string (str a)] w fun v w' => Fresh kU 124 w w' v (blk (dval a)) := by
  refine fn_ret tok Tryz.func81 (by kernel_rfl) rfl rfl ?_
  (conv => whnf)
  refine loop_rule tok [0, 3] [] (fun vs w' => ∃ (m : Nat) (xs : List Nat) (v : Value), vs = [.string (str (a.take m)), v] ∧ m ≤ a.length ∧ Fresh kU 124 w w' v xs ∧ (∀ x ∈ xs, x < 1000000000) ∧ xs.length + m ≤ a.length ∧ valB xs + 1000000000 ^ xs.length * dval (a.take m) = dval a)
    (fun vs w => match vs with | [.string s, _] => s.size | _ => 0) ?_
  (conv => whnf)
  refine ⟨?_, ?_⟩
  · (conv => whnf)
    exact ⟨a.length, [], _, by rw [List.take_length], Nat.le_refl _, Fresh.nil _ _ (Chg.refl _ _), by simp, by simp, by simp [valB]⟩
  rintro _ w1 ⟨m, xs, v, rfl, hm, hf, hx, hl, hv⟩
  have hsz : (str (a.take m)).size = m := by rw [str_size, List.length_take, Nat.min_eq_left hm]
  (conv => whnf)
  refine condP_dec (fun h1 => ?_) (fun h1 => ?_)
  · (repeat ((conv => whnf); first | refine numP_i64 (by omega) ?_ | refine numP_u64 (by omega) ?_ | refine numP_u8 (by omega) ?_ | refine Exists.intro _ (And.intro ‹_› ?_) | refine Exists.intro _ (And.intro rfl ?_) | refine And.intro (by omega) (Exists.intro _ (And.intro rfl ?_)) | refine And.intro (by omega) ?_)); (conv => whnf)
    have hc : imax 0 (((str (a.take m)).size : Int) - 9) = ((m - 9 : Nat) : Int) := by unfold imax; split <;> omega
    rw [hc]
    refine loop_rule tok [5, 6] [0, 3, 4] (fun vs w' => ∃ (x j : Int), vs = [.int .u64 x, .int .i64 j] ∧ ((m - 9 : Nat) : Int) ≤ j ∧ j ≤ m ∧ x = dval (seg a (m - 9) j.toNat) ∧ w' = w1) (fun vs w => match vs with | [_, .int _ j] => m - j.toNat | _ => 0) ?_
    (conv => whnf)
    refine ⟨?_, ?_⟩
    · (conv => whnf)
      exact ⟨_, _, rfl, by omega, by omega, by rw [Int.toNat_natCast, seg_nil]; rfl, rfl⟩
    rintro _ _ ⟨x, j, rfl, hj1, hj2, hxj, rfl⟩
    have hlt := seg_lt hd (c := m - 9) (j := j.toNat) (by omega) (by omega) (by omega)
    (conv => whnf)
    refine condP_dec (fun h2 => ?_) (fun h2 => ?_)
    · have hb : byteAt (str (a.take m)) j = ((a.getD j.toNat 0).toNat : Int) := by rw [byteAt_str, getD_take a 0 (by omega)]
      have hdr := dig_range hd (j := j.toNat) (by omega)
      have hst := seg_step (a := a) (c := m - 9) (j := j.toNat) (by omega) (by omega)
      (repeat ((conv => whnf); first | refine numP_i64 (by omega) ?_ | refine numP_u64 (by omega) ?_ | refine numP_u8 (by omega) ?_ | refine Exists.intro _ (And.intro ‹_› ?_) | refine Exists.intro _ (And.intro rfl ?_) | refine And.intro (by omega) (Exists.intro _ (And.intro rfl ?_)) | refine And.intro (by omega) ?_)); (conv => whnf)
      have hj3 : (j + 1).toNat = j.toNat + 1 := by omega
      exact ⟨⟨rfl, rfl⟩, ⟨_, _, rfl, by omega, by omega, by rw [hj3, hst]; omega, rfl⟩, by simp; omega⟩
    · obtain rfl : j = m := by omega
      (repeat ((conv => whnf); first | refine numP_i64 (by omega) ?_ | refine numP_u64 (by omega) ?_ | refine numP_u8 (by omega) ?_ | refine Exists.intro _ (And.intro ‹_› ?_) | refine Exists.intro _ (And.intro rfl ?_) | refine And.intro (by omega) (Exists.intro _ (And.intro rfl ?_)) | refine And.intro (by omega) ?_)); (conv => whnf)
      intro b w2 hw
      (conv => whnf)
      refine fall_in (app_fresh tok rfl rfl rfl rfl rfl hw hf (x := dval (seg a (m - 9) m)) (by rw [hxj]; rfl) (by omega) (by omega) fun v' w3 hf3 hch => ?_)
      (repeat ((conv => whnf); first | refine numP_i64 (by omega) ?_ | refine numP_u64 (by omega) ?_ | refine numP_u8 (by omega) ?_ | refine Exists.intro _ (And.intro ‹_› ?_) | refine Exists.intro _ (And.intro rfl ?_) | refine And.intro (by omega) (Exists.intro _ (And.intro rfl ?_)) | refine And.intro (by omega) ?_)); (conv => whnf)
      have htk : (str (a.take m)).extract 0 (m - 9) = str (a.take (m - 9)) := by
        rw [str_extract, List.drop_zero, List.take_take, Nat.min_eq_left (by omega)]
      have hs9 : (str (a.take (m - 9))).size = m - 9 := by rw [str_size, List.length_take]; omega
      refine ⟨⟨rfl, rfl⟩, ⟨m - 9, _, v', by rw [show ((m - 9 : Nat) : Int).toNat = m - 9 by omega, show (0 : Int).toNat = 0 from rfl, htk], by omega, hf3, ?_, by simp; omega, ?_⟩, ?_⟩
      · intro y hy
        rcases List.mem_append.1 hy with hy | hy
        · exact hx y hy
        · simp at hy; subst hy; exact (seg_lt hd (c := m - 9) (j := m) (by omega) hm (by omega)).2
      · exact blocks_step hm hv
      · show (((str (a.take m)).extract _ _).size : Nat) < (str (a.take m)).size
        rw [show ((m - 9 : Nat) : Int).toNat = m - 9 by omega, show (0 : Int).toNat = 0 from rfl, htk, hs9, hsz]
        omega
  · obtain ⟨A, c, rfl, h2, h3⟩ := hf.shape
    (repeat ((conv => whnf); first | refine numP_i64 (by omega) ?_ | refine numP_u64 (by omega) ?_ | refine numP_u8 (by omega) ?_ | refine Exists.intro _ (And.intro ‹_› ?_) | refine Exists.intro _ (And.intro rfl ?_) | refine And.intro (by omega) (Exists.intro _ (And.intro rfl ?_)) | refine And.intro (by omega) ?_)); (conv => whnf)
    refine (nat_trim _ A xs.length c xs w1 hf.old).call ?_
    rintro _ w2 ⟨rfl, rfl⟩
    (conv => whnf)
    obtain rfl : m = 0 := by omega
    rw [List.take_zero, dval_nil, Nat.mul_zero, Nat.add_zero] at hv
    have ht := hf.take_ (tlen_le xs)
    have h4 : (trimL xs).length = tlen xs := by unfold trimL; rw [List.length_take, Nat.min_eq_left (tlen_le xs)]
    rw [h4, ← hv, ← trim_blk hx]
    exact ht
end Go.Proofs.YtfeegacmmfgjfaaGreatDoorX

/-!  Package nat: comparing. -/
set_option linter.unusedVariables false
set_option maxRecDepth 10000
namespace Go.Proofs.YtfeegacmmfgjfaaGreatDoorX
open Go Go.RowKit Go.Proofs Go.Proofs.YtfeegacmmfgjfaaGreatDoorM
theorem mixed : Tryz.prog.follows .mixedOrders = true := by kernel_rfl

theorem nat_compare (S S' : Nat → Prop) (A A' : Option Addr) (n n' c c' a b : Nat) (w : World) (hx : SlR kU S w (.slice A n c) (blk a)) (hy : SlR kU S' w (.slice A' n' c') (blk b)) :
    Ret Tryz.prog 119 #[.slice A n c, .slice A' n' c'] w fun v w' => v = .int .i64 (cmpN a b) ∧ Ext w w' := by
  obtain ⟨rfl, hx1, hx2⟩ := hx.len
  obtain ⟨rfl, hy1, hy2⟩ := hy.len
  refine fn_ret tok Tryz.func119 (by kernel_rfl) rfl rfl ?_
  (conv => whnf)
  refine condP_not (condP_dec (fun h => ?_) (fun h => ?_))
  · have hl : (blk a).length = (blk b).length := Int.ofNat.inj h
    (conv => whnf)
    refine loop_rule tok [19] [0, 1, 18] (fun vs w' => ∃ i : Int, vs = [.int .i64 i] ∧ 0 ≤ i ∧ i ≤ (blk a).length ∧ Ext w w' ∧ ∀ j, (blk a).length - i.toNat ≤ j → j < (blk a).length → (blk a).getD j 0 = (blk b).getD j 0) (fun vs w => match vs with | [.int _ i] => (blk a).length - i.toNat | _ => 0) ?_
    (conv => whnf)
    refine ⟨?_, ?_⟩
    · (conv => whnf)
      exact ⟨0, rfl, by omega, by omega, Chg.refl _ _, fun j h1 h2 => by simp at h1; omega⟩
    rintro _ w1 ⟨i, rfl, hi0, hi, hE, he⟩
    (conv => whnf)
    refine condP_dec (fun h1 => ?_) (fun h1 => ?_)
    · (conv => whnf)
      have hE2 : Ext w w1.drew := hE.trans (Chg.drew _ _)
      obtain ⟨ad, rfl, hc1⟩ := (hx.ext hE2).u ((blk a).length - 1 - i) (by omega) (by omega)
      obtain ⟨ad', rfl, hc2⟩ := (hy.ext hE2).u ((blk a).length - 1 - i) (by omega) (by omega)
      refine draw_read tok mixed (by decide +kernel) ?_
      (repeat ((conv => whnf); first | refine numP_i64 (by omega) ?_ | refine numP_u64 (by omega) ?_ | refine numP_u8 (by omega) ?_ | refine Exists.intro _ (And.intro (fun _ h => (congrArg (fun w => World.cell? w _) h).trans ‹_›) ?_) | refine And.intro (by omega) (Exists.intro _ (And.intro rfl ?_)) | refine And.intro (by omega) ?_)); (conv => whnf)
      refine ⟨_, fun w3 h3 => (cmp_Compare_u _ _ w3).call (fun v w' ⟨hv, hw⟩ => ⟨hv, by rw [hw]; exact h3⟩), ?_⟩
      (conv => whnf)
      rintro _ rfl
      (conv => whnf)
      rw [cmpZ_nat]
      have hk : ((blk a).length - 1 - i : Int).toNat = (blk a).length - 1 - i.toNat := by omega
      refine condP_not (condP_dec (fun h2 => ?_) (fun h2 => ?_))
      · (conv => whnf)
        rw [hk] at h2
        have h3 := cmpN_zero h2
        refine numP_i64 (by omega) ?_
        (conv => whnf)
        refine ⟨⟨rfl, rfl⟩, ⟨i + 1, rfl, by omega, by omega, hE2, fun j h4 h5 => ?_⟩, by simp; omega⟩
        by_cases h6 : j = (blk a).length - 1 - i.toNat
        · rw [h6]; exact h3
        · exact he j (by omega) h5
      · (conv => whnf)
        refine ⟨?_, hE2⟩
        rw [hk] at h2 ⊢
        rw [cmp_top hl (by omega) (fun j h4 h5 => he j (by omega) h5) h2]
    · (repeat ((conv => whnf); first | refine numP_i64 (by omega) ?_ | refine numP_u64 (by omega) ?_ | refine numP_u8 (by omega) ?_ | refine Exists.intro _ (And.intro ‹_› ?_) | refine Exists.intro _ (And.intro rfl ?_) | refine And.intro (by omega) (Exists.intro _ (And.intro rfl ?_)) | refine And.intro (by omega) ?_)); (conv => whnf)
      refine ⟨?_, hE⟩
      rw [blk_same hl (fun j h2 => he j (by omega) h2), cmpN_eq]
  · (conv => whnf)
    refine (cmp_Compare_i _ _ _).call ?_
    rintro _ _ ⟨rfl, rfl⟩
    (repeat ((conv => whnf); first | refine numP_i64 (by omega) ?_ | refine numP_u64 (by omega) ?_ | refine numP_u8 (by omega) ?_ | refine Exists.intro _ (And.intro ‹_› ?_) | refine Exists.intro _ (And.intro rfl ?_) | refine And.intro (by omega) (Exists.intro _ (And.intro rfl ?_)) | refine And.intro (by omega) ?_)); (conv => whnf)
    refine ⟨?_, Chg.refl _ _⟩
    rw [cmpZ_nat]
    rcases Nat.lt_trichotomy (blk a).length (blk b).length with h1 | h1 | h1
    · rw [cmpN_lt h1, cmpN_lt (blk_len_lt h1)]
    · exact absurd (congrArg Int.ofNat h1) h
    · rw [cmpN_gt h1, cmpN_gt (blk_len_lt h1)]

theorem nat_Cmp (a b : List UInt8) (w : World) (ha : isNat a = true) (hb : isNat b = true) : Ret Tryz.prog 79 #[.string (str a), .string (str b)] w fun v w' => v = .int .i64 (cmpN (dval a) (dval b)) ∧ Ext w w' := by
  have hla := isNat_len ha
  have hlb := isNat_len hb
  refine fn_ret tok Tryz.func79 (by kernel_rfl) rfl rfl ?_
  (conv => whnf)
  refine (nat_Valid a _ (by omega)).call ?_
  rintro _ _ ⟨rfl, rfl⟩
  rw [ha]
  (conv => whnf)
  refine (nat_Valid b _ (by omega)).call ?_
  rintro _ _ ⟨rfl, rfl⟩
  rw [hb]
  (conv => whnf)
  refine (nat_blocks a _ (isNat_dig ha) (by omega)).call ?_
  rintro v1 w1 h1
  (conv => whnf)
  refine (nat_blocks b _ (isNat_dig hb) (by omega)).call ?_
  rintro v2 w2 h2
  obtain ⟨A, c, rfl, _⟩ := h1.shape
  obtain ⟨A', c', rfl, _⟩ := h2.shape
  (conv => whnf)
  refine (nat_compare _ _ _ _ _ _ _ _ _ _ _ (h1.old.ext h2.ext) h2.old).call ?_
  rintro _ w3 ⟨rfl, h3⟩
  (conv => whnf)
  exact ⟨rfl, (h1.ext.trans h2.ext).trans h3⟩
end Go.Proofs.YtfeegacmmfgjfaaGreatDoorX

/-!  The library cmp; small functions of package counts. -/
set_option linter.unusedVariables false
set_option maxRecDepth 10000
namespace Go.Proofs.YtfeegacmmfgjfaaGreatDoorX
open Go Go.RowKit Go.Proofs Go.Proofs.YtfeegacmmfgjfaaGreatDoorM
theorem sLt_lts (a b : List UInt8) : sLt a b = lts a b := by
  induction a generalizing b with
  | nil => cases b <;> rfl
  | cons x r ih =>
    cases b with
    | nil => rfl
    | cons y s =>
      simp only [sLt, lts, ih]
      have h1 : decide (x < y) = decide (x.toNat < y.toNat) := decide_eq_decide.2 UInt8.lt_iff_toNat_lt
      have h2 : (x == y) = decide (x.toNat = y.toNat) := by
        by_cases h : x = y
        · subst h; simp
        · have : ¬ x.toNat = y.toNat := fun e => h (UInt8.toNat_inj.1 e)
          simp [h, this]
      rw [h1, h2]
theorem isName (s : List UInt8) (w : World) (hs : s.length ≤ 9223372036854775807) : Ret Tryz.prog 15 #[.string (str s)] w fun v w' => v = .bool (isNm s) ∧ w' = w := by
  refine fn_ret tok Tryz.func15 (by kernel_rfl) rfl rfl ?_
  have hsz : ((str s).size : Int) = s.length := rfl
  (conv => whnf)
  refine condP_not (condP_str (b := []) (fun h => ?_) fun h => ?_)
  · (repeat ((conv => whnf); first | refine numP_i64 (by omega) ?_ | refine numP_u64 (by omega) ?_ | refine numP_u8 (by omega) ?_ | refine Exists.intro _ (And.intro ‹_› ?_) | refine Exists.intro _ (And.intro rfl ?_) | refine And.intro (by omega) (Exists.intro _ (And.intro rfl ?_)) | refine And.intro (by omega) ?_)); (conv => whnf)
    subst h
    exact ⟨rfl, rfl⟩
  · (conv => whnf)
    refine ⟨?_, rfl⟩
    unfold isNm
    rw [decide_eq_true h, dec_eq]
    have : decide (((str s).size : Int) ≤ 40) = decide (s.length ≤ 40) := decide_eq_decide.2 (by omega)
    rw [this]; rfl
theorem valid1 (s : List UInt8) (w : World) (hs : s.length ≤ 9223372036854775807) : Ret Tryz.prog 38 #[.string (str s)] w fun v w' => v = .bool (decide (s = []) || isNm s) ∧ w' = w := by
  refine fn_ret tok Tryz.func38 (by kernel_rfl) rfl rfl ?_
  (conv => whnf)
  refine condP_str (b := []) (fun h => ?_) fun h => ?_
  · (repeat ((conv => whnf); first | refine numP_i64 (by omega) ?_ | refine numP_u64 (by omega) ?_ | refine numP_u8 (by omega) ?_ | refine Exists.intro _ (And.intro ‹_› ?_) | refine Exists.intro _ (And.intro rfl ?_) | refine And.intro (by omega) (Exists.intro _ (And.intro rfl ?_)) | refine And.intro (by omega) ?_)); (conv => whnf)
    subst h
    exact ⟨rfl, rfl⟩
  · (conv => whnf)
    refine (isName s w hs).call ?_
    rintro _ w ⟨rfl, rfl⟩
    (conv => whnf)
    refine ⟨?_, rfl⟩
    rw [decide_eq_false h]; rfl
theorem isNaNs (s : List UInt8) (w : World) : Ret Tryz.prog 113 #[.string (str s)] w fun v w' => v = .bool false ∧ w' = w := by
  refine fn_ret tok Tryz.func113 (by kernel_rfl) rfl rfl ?_
  (conv => whnf)
  rw [strEq_str, decide_eq_true rfl]
  exact ⟨rfl, rfl⟩
theorem compareS (a b : List UInt8) (w : World) : Ret Tryz.prog 71 #[.string (str a), .string (str b)] w fun v w' => v = .int .i64 (cmps a b) ∧ w' = w := by
  refine fn_ret tok Tryz.func71 (by kernel_rfl) rfl rfl ?_
  (conv => whnf)
  refine (isNaNs a w).call ?_
  rintro _ w ⟨rfl, rfl⟩
  (conv => whnf)
  refine (isNaNs b w).call ?_
  rintro _ w ⟨rfl, rfl⟩
  (conv => whnf)
  refine condP_lt (fun h => ?_) fun h => ?_
  · (conv => whnf)
    rw [sLt_lts] at h
    refine ⟨?_, rfl⟩
    rw [cmps, if_pos h]
  rw [sLt_lts] at h
  (conv => whnf)
  rw [strLt_str, strEq_str, sLt_lts, h]
  refine condP_not (condP_cases (fun h2 => ?_) fun h2 => ?_)
  · (conv => whnf)
    refine ⟨?_, rfl⟩
    have h2 : decide (a = b) = true := h2
    rw [cmps_eq.2 (by simpa using h2)]
  · (conv => whnf)
    refine ⟨?_, rfl⟩
    have h2 : decide (a = b) = false := h2
    have h3 : lts b a = true := by
      cases h4 : lts b a with
      | true => rfl
      | false => have := lts_tri h h4; simp [this] at h2
    rw [cmps, if_neg (by rw [h]; simp), if_pos h3]
/-- cmp.Or of ints: the first that is not 0. -/
def orI : List Int → Int
  | [] => 0
  | x :: r => if x ≠ 0 then x else orI r
theorem orI_drop (l : List Int) (i : Nat) (h : ∀ j, j < i → l.getD j 0 = 0) : orI l = orI (l.drop i) := by
  induction i generalizing l with
  | zero => rfl
  | succ i ih =>
    cases l with
    | nil => rfl
    | cons x r =>
      have h0 := h 0 (by omega)
      simp at h0
      rw [List.drop_succ_cons, ← ih r fun j hj => by have := h (j + 1) (by omega); simpa using this]
      simp [orI, h0]
theorem or_ (S : Nat → Prop) (A : Option Addr) (n c : Nat) (l : List Int) (w : World) (h : SlR (kInt .i64) S w (.slice A n c) l) : Ret Tryz.prog 70 #[.slice A n c] w fun v w' => v = .int .i64 (orI l) ∧ w' = w := by
  obtain ⟨rfl, hc, hm⟩ := h.len
  refine fn_ret tok Tryz.func70 (by kernel_rfl) rfl rfl ?_
  (conv => whnf)
  refine loop_rule tok [8] [3, 6, 7] (fun vs w' => ∃ i : Nat, vs = [.int .i64 i] ∧ i ≤ l.length ∧ (∀ j, j < i → l.getD j 0 = 0) ∧ w' = w) (fun vs w => match vs with | [.int _ i] => l.length - i.toNat | _ => 0) ?_
  (conv => whnf)
  refine ⟨⟨0, rfl, by omega, fun j hj => by omega, rfl⟩, ?_⟩
  rintro _ _ ⟨i, rfl, hi, hd, rfl⟩
  (conv => whnf)
  refine condP_dec (fun h1 => ?_) (fun h1 => ?_)
  · obtain ⟨ad, rfl, hcell⟩ := h.i (i : Int) (by omega) (by omega)
    (repeat ((conv => whnf); first | refine numP_i64 (by omega) ?_ | refine numP_u64 (by omega) ?_ | refine numP_u8 (by omega) ?_ | refine Exists.intro _ (And.intro ‹_› ?_) | refine Exists.intro _ (And.intro rfl ?_) | refine And.intro (by omega) (Exists.intro _ (And.intro rfl ?_)) | refine And.intro (by omega) ?_)); (conv => whnf)
    rw [Int.toNat_natCast]
    have hx : l.drop i = l.getD i 0 :: l.drop (i + 1) := by
      rw [List.drop_eq_getElem_cons (by omega), List.getD_eq_getElem?_getD, List.getElem?_eq_getElem (by omega)]; rfl
    refine condP_not (condP_dec (fun h2 => ?_) (fun h2 => ?_))
    · (repeat ((conv => whnf); first | refine numP_i64 (by omega) ?_ | refine numP_u64 (by omega) ?_ | refine numP_u8 (by omega) ?_ | refine Exists.intro _ (And.intro ‹_› ?_) | refine Exists.intro _ (And.intro rfl ?_) | refine And.intro (by omega) (Exists.intro _ (And.intro rfl ?_)) | refine And.intro (by omega) ?_)); (conv => whnf)
      refine ⟨⟨rfl, rfl⟩, ⟨i + 1, rfl, by omega, fun j hj => ?_, rfl⟩, by simp; omega⟩
      rcases Nat.lt_or_ge j i with hlt | hge
      · exact hd j hlt
      · obtain rfl : j = i := by omega
        exact h2
    · (conv => whnf)
      refine ⟨?_, rfl⟩
      rw [orI_drop l i hd, hx, orI, if_pos h2]
  · (conv => whnf)
    refine ⟨?_, rfl⟩
    rw [orI_drop l i hd, List.drop_of_length_le (by omega)]
    rfl
end Go.Proofs.YtfeegacmmfgjfaaGreatDoorX

/-!  The order of counts; slices.SortFunc of counts. -/
set_option linter.unusedVariables false
set_option maxRecDepth 10000
namespace Go.Proofs.YtfeegacmmfgjfaaGreatDoorX
open Go Go.RowKit Go.Proofs Go.Proofs.YtfeegacmmfgjfaaGreatDoorM
/-- What a call leaves that lays blocks and draws, and no more. -/
def Gr (w w' : World) : Prop := ∃ (q : Nat) (os : Array Obj), w' = Sort.grow (w.drewN q) os
theorem Gr.refl (w : World) : Gr w w := ⟨0, #[], by rw [Sort.grow_empty]; rfl⟩
theorem Gr.trans {a b c : World} (h : Gr a b) (h' : Gr b c) : Gr a c := by
  obtain ⟨q, os, rfl⟩ := h
  obtain ⟨q', os', rfl⟩ := h'
  refine ⟨q + q', os ++ os', ?_⟩
  show ({ a with heap := a.heap ++ os ++ os', drawn := a.drawn + q + q' } : World) = { a with heap := a.heap ++ (os ++ os'), drawn := a.drawn + (q + q') }
  rw [Array.append_assoc, Nat.add_assoc]
theorem NewB.gr {w w' : World} {o : Obj} {b : Nat} (h : NewB w o b w') : Gr w w' := ⟨0, #[o], by rw [h.hw, Sort.alloc_eq_grow]; rfl⟩
theorem Gr.drew (w : World) : Gr w w.drew := ⟨1, #[], by rw [Sort.grow_empty]; rfl⟩
theorem Gr.ext {w w' : World} (h : Gr w w') : Ext w w' := by
  obtain ⟨q, os, rfl⟩ := h
  exact ⟨rfl, rfl, rfl, by simp [Sort.grow, World.drewN], fun k hk _ => Sort.heap_grow_old _ _ hk⟩
theorem orI_two (a b : Int) : orI [a, b] = if a ≠ 0 then a else b := by
  simp only [orI]
  by_cases h : a = 0
  · by_cases h2 : b = 0
    · simp [h, h2]
    · simp [h, h2]
  · simp [h]

theorem compareC (x y : Cnt) (w : World) : Ret Tryz.prog 36 #[.agg (eCnt x).toArray, .agg (eCnt y).toArray] w fun v w' => v = .int .i64 (ccmp x y) ∧ Gr w w' := by
  refine fn_ret tok Tryz.func36 (by kernel_rfl) rfl rfl ?_
  (conv => whnf)
  intro b2 w2 hw2
  (conv => whnf)
  intro b3 w3 hw3
  have hb2 := (hw3.chg No).blk hw2.blk (fun h => h)
  have hb3 := hw3.blk
  (conv => whnf)
  refine draw_held tok mixed (fun w' => w'.heap[b2]? = some (.cells (cellsOf (.agg (eCnt x).toArray)).toArray 60 (0, 0)) ∧ w'.heap[b3]? = some (.cells (cellsOf (.agg (eCnt y).toArray)).toArray 60 (0, 0)))
    (ones [0, 1, 2, 3, 5, 6, 7, 8] (.alt 4 (.alt 9 (.alt 10 (.alt 11 (ones [12] .done) .nil) .nil) .nil) .nil)) (by decide +kernel) (by decide +kernel) ⟨hb2, hb3⟩ ?_
  (conv => whnf)
  refine ⟨_, fun w' h => (by rw [addr_add, cell_of_blk h.1]; rfl), ?_⟩
  (conv => whnf)
  refine ⟨_, fun w' h => (by rw [addr_add, cell_of_blk h.2]; rfl), ?_⟩
  (conv => whnf)
  refine ⟨_, fun w' h => (by rw [addr_add, cell_of_blk h.1]; rfl), ?_⟩
  (conv => whnf)
  refine ⟨_, fun w' h => (by rw [addr_add, cell_of_blk h.2]; rfl), ?_⟩
  (conv => whnf)
  refine ⟨?_, trivial⟩
  refine (compareS x.1 y.1 _).call ?_
  rintro _ w4 ⟨rfl, rfl⟩
  (conv => whnf)
  refine ⟨⟨hb2, hb3⟩, ?_⟩
  (conv => whnf)
  refine ⟨?_, trivial⟩
  refine (compareS x.2.1 y.2.1 _).call ?_
  rintro _ w4 ⟨rfl, rfl⟩
  (conv => whnf)
  refine ⟨⟨hb2, hb3⟩, ?_⟩
  (conv => whnf)
  refine ⟨?_, trivial⟩
  intro b4 w4 hw4
  refine ⟨⟨(hw4.chg No).blk hb2 (fun h => h), (hw4.chg No).blk hb3 (fun h => h)⟩, ?_⟩
  (conv => whnf)
  refine ⟨?_, trivial⟩
  have hsl : Fresh (kInt .i64) 3 w3.drew w4 (.slice (some ⟨b4, 0, none⟩) 2 2) [cmps x.1 y.1, cmps x.2.1 y.2.1] := by
    have hE : Ext w3.drew w4 := hw4.chg No
    exact (kInt_flat .i64).in_ (xs := [cmps x.1 y.1, cmps x.2.1 y.2.1]) hE (by rw [hw4.hb]; exact Nat.le_refl _) hw4.blk (by simp) (by unfold maxLen; omega) rfl rfl
  refine (or_ _ _ _ _ _ w4 hsl.read).call ?_
  rintro _ w5 ⟨rfl, rfl⟩
  (conv => whnf)
  refine ⟨⟨(hw4.chg No).blk hb2 (fun h => h), (hw4.chg No).blk hb3 (fun h => h)⟩, ?_⟩
  (conv => whnf)
  refine ⟨?_, ((hw2.gr.trans hw3.gr).trans (Gr.drew w3)).trans hw4.gr⟩
  rw [orI_two]
  rfl
theorem flatK_list {α : Type} [Inhabited α] {enc : α → List Value} {k : Nat} (hk : ∀ x, (enc x).length = k) (h0 : 0 < k) (d : Array α) : (Sort.flatK enc k d).toList = (d.toList.map enc).flatten := by
  have hl : ∀ l : List α, ((l.map enc).flatten).length = l.length * k := by
    intro l
    induction l with
    | nil => simp
    | cons x r ih => simp only [List.map_cons, List.flatten_cons, List.length_append, ih, hk, List.length_cons, Nat.succ_mul]; omega
  apply List.ext_getElem?
  intro t
  by_cases ht : t < d.size * k
  · have h1 : t / k < d.size := Nat.div_lt_of_lt_mul (by rw [Nat.mul_comm]; exact ht)
    have h2 : t % k < k := Nat.mod_lt _ h0
    have h3 : d.toList[t / k]? = some d[t / k]! := by rw [getElem!_pos d _ h1]; simp [h1]
    have h4 : (enc d[t / k]!)[t % k]? = some (enc d[t / k]!)[t % k]! := by
      have h9 : t % k < (enc d[t / k]!).length := by rw [hk]; exact h2
      rw [List.getElem?_eq_getElem h9, getElem!_pos (enc d[t / k]!) (t % k) h9]
    have h5 := flat_get (css := d.toList.map enc) (c := k) (fun cs hcs => by obtain ⟨x, _, rfl⟩ := List.mem_map.1 hcs; exact hk x) h0 (j := t / k) (cs := enc d[t / k]!) (by rw [List.getElem?_map, h3]; rfl) h4
    have h6 : t / k * k + t % k = t := by have := Nat.div_add_mod t k; rw [Nat.mul_comm] at this; exact this
    rw [h6] at h5
    rw [h5, Array.getElem?_toList, getElem?_pos _ t (by rw [Sort.size_flatK]; exact ht), ← Sort.get_flatK enc k d t ht, getElem!_pos _ t (by rw [Sort.size_flatK]; exact ht)]
  · have e1 : (Sort.flatK enc k d).toList.length ≤ t := by rw [Array.length_toList, Sort.size_flatK]; omega
    have e2 : ((d.toList.map enc).flatten).length ≤ t := by rw [hl, Array.length_toList]; omega
    rw [List.getElem?_eq_none e1, List.getElem?_eq_none e2]
theorem swoC : Sort.SWO (ltOf ccmp) where
  irrefl x := by unfold ltOf; rw [ccmp_lt]; exact ltk_irrefl _
  trans x y z h1 h2 := by unfold ltOf at *; rw [ccmp_lt] at *; exact ltk_trans h1 h2
  ntrans x y z h1 h2 := by unfold ltOf at *; rw [ccmp_lt] at *; exact ltk_ntrans h1 h2
theorem sortC (w0 w : World) (v : Value) (xs : List Cnt) (h : Fresh kCnt 60 w0 w v xs) (hx : xs.length < 4611686018427387904) :
    Ret Tryz.prog 35 #[v, .func (.func 36) #[] #[]] w fun r w' => r = .tuple #[] ∧ ∃ ys : List Cnt, ys.Perm xs ∧ ys.Pairwise (fun a b => ltk (key b) (key a) = false) ∧ Fresh kCnt 60 w0 w' v ys ∧ Chg (fun b => v.ownBlock = some b) w w' := by
  obtain ⟨A, c, rfl, h1, h2⟩ := h.shape
  have hnc : kCnt.nc = 3 := rfl
  refine Ret.of Tryz.func35 (by kernel_rfl) (by kernel_rfl) ?_
  rcases kCnt_flat.out h with ⟨rfl, _, rfl, rfl⟩ | ⟨g, cur, rfl, _, hg, hh, h1, h2, hs, ht⟩
  · have hcon := AnyF.slices_SortFunc_none { Tryz.sortF with } none 0 (.func (.func 36) #[] #[]) w
    change Calls Tryz.prog 35 _ _ _ at hcon
    refine hcon.mono ?_
    rintro e w' ⟨rfl, rfl⟩
    exact ⟨_, rfl, rfl, [], .refl _, .nil, h, .refl _ _⟩
  · have eg : ∀ args w, (callFunc 36 args).run Tryz.prog w = .ok (.enter 36 args) w := enters_of Tryz.func36 (by kernel_rfl) rfl
    have hcmp : CmpLays Tryz.prog 36 #[] eCnt 3 ccmp g 0 xs.toArray.size w := fun m os dk _ x y => (compareC x y _).calls.mono fun e w' ⟨v, he, hv, q, os', hw⟩ => ⟨by rw [he, hv], q, os', hw⟩
    have hH : Sort.HoldsK eCnt 3 w g 0 xs.toArray := by
      intro j hj
      rw [Sort.size_flatK] at hj
      refine ⟨?_, frozen_of_blk hh _⟩
      rw [Nat.zero_add, cell_of_blk hh, ← Array.getElem?_toList]
      have h3 := congrArg (fun l => l[j]?) ht
      simp only [hnc] at h3
      rw [List.getElem?_take_of_lt (by simpa using hj)] at h3
      rw [h3]
      have h4 := flatK_list (enc := eCnt) (k := 3) (fun _ => rfl) (by decide) xs.toArray
      rw [List.toList_toArray] at h4
      rw [← h4, Array.getElem?_toList, getElem?_pos _ j (by rw [Sort.size_flatK]; exact hj), getElem!_pos _ j (by rw [Sort.size_flatK]; exact hj)]
      rfl
    have hcon := AnyQ.slices_SortFunc Tryz.sortF 3 (fun w => ti60.run_isAgg w) (fun w => ti60.run_sizeOf w) eCnt (fun _ => rfl) (fun x v hv => by simp [eCnt] at hv; rcases hv with rfl | rfl | rfl <;> rfl) ccmp swoC 36 #[] g 0 c xs.toArray w eg hcmp hH (Array.getElem?_eq_some_iff.1 hh).1 (by simpa using hx)
    change Calls Tryz.prog 35 _ _ _ at hcon
    refine hcon.mono ?_
    rintro e w' ⟨rfl, d', n, os, ⟨p1, p2, p3⟩, hso, rfl⟩
    have hsz : d'.size = xs.length := by simpa using p1
    have hperm : d'.toList.Perm xs := by
      have e1 : (d'.extract 0 xs.toArray.size).toList = d'.toList := by rw [List.size_toArray, ← hsz, Array.extract_size]
      have e2 : (xs.toArray.extract 0 xs.toArray.size).toList = xs := by rw [Array.extract_size]
      rw [e1, e2] at p3
      exact p3
    have hgl : g < w.heap.size := (Array.getElem?_eq_some_iff.1 hh).1
    have hch : Chg (fun b => (Value.slice (some ⟨g, 0, none⟩) xs.length c).ownBlock = some b) w (sortWorldK eCnt 3 w g 0 n d' os) := by
      refine ⟨rfl, rfl, rfl, by simp [sortWorldK, Sort.grow, Sort.putRowK, Sort.putRow, Sort.mapBlock, Sort.ahead], fun k hk hne => ?_⟩
      unfold sortWorldK
      rw [Sort.heap_grow_old _ _ (by simpa [Sort.putRowK, Sort.putRow, Sort.mapBlock, Sort.ahead] using hk)]
      have : g ≠ k := fun e => hne (by rw [e]; rfl)
      simp [Sort.putRowK, Sort.putRow, Sort.mapBlock, Sort.ahead, Array.getElem?_modify, this]
    refine ⟨_, rfl, rfl, d'.toList, hperm, ?_, ?_, hch⟩
    · rw [List.pairwise_iff_getElem]
      intro i j hi hj hij
      rw [Array.length_toList] at hi hj
      have := hso i j (Nat.zero_le _) hij (by rw [List.size_toArray, ← hsz]; exact hj)
      unfold ltOf at this
      rw [ccmp_lt, getElem!_pos d' i hi, getElem!_pos d' j hj] at this
      simpa using this
    · have hb : (sortWorldK eCnt 3 w g 0 n d' os).heap[g]? = some (.cells (Sort.putCells id 0 (Sort.flatK eCnt 3 d') cur) 60 (0, 0)) := by
        unfold sortWorldK
        rw [Sort.heap_grow_old _ _ (by simpa [Sort.putRowK, Sort.putRow, Sort.mapBlock, Sort.ahead] using hgl)]
        simp [Sort.putRowK, Sort.putRow, Sort.mapBlock, Sort.ahead, Array.getElem?_modify, hh, Sort.onCells]
      have hE : Ext w0 (sortWorldK eCnt 3 w g 0 n d' os) := h.ext.then hch fun i hi hm => by
        simp only [Value.ownBlock, Option.some.injEq] at hm
        omega
      have := kCnt_flat.in_ (xs := d'.toList) (c := c) hE hg hb (by rw [Array.length_toList, hsz]; exact h1) h2 (by simp [Sort.putCells, hs]) ?_
      · rw [Array.length_toList, hsz] at this; exact this
      · rw [Array.length_toList, ← flatK_list (enc := eCnt) (k := 3) (fun _ => rfl) (by decide) d', hnc]
        apply List.ext_getElem?
        intro j
        have hcl : xs.length * 3 ≤ cur.size := by rw [hs, hnc]; exact Nat.mul_le_mul_right _ h1
        by_cases hj : j < d'.size * 3
        · have h1 : j < cur.size := by omega
          have h9 : j < (Sort.flatK eCnt 3 d').size := by rw [Sort.size_flatK]; exact hj
          rw [List.getElem?_take_of_lt hj, Array.getElem?_toList, Array.getElem?_toList, getElem?_pos (Sort.flatK eCnt 3 d') j h9]
          simp [Sort.putCells, hj, h1]
        · rw [List.getElem?_take_eq_none (by omega), List.getElem?_eq_none (by rw [Array.length_toList, Sort.size_flatK]; omega)]
end Go.Proofs.YtfeegacmmfgjfaaGreatDoorX

/-!  Counts that are added up. -/
set_option linter.unusedVariables false
namespace Go.Proofs.YtfeegacmmfgjfaaGreatDoorM
abbrev K := Str × Str
section
variable {α : Type} [DecidableEq α]
def bump : List (α × Int) → α → Int → List (α × Int)
  | [], k, n => [(k, n)]
  | (a, u) :: r, k, n => if k = a then (a, u + n) :: r else (a, u) :: bump r k n
def getI : List (α × Int) → α → Int
  | [], _ => 0
  | (a, u) :: r, k => if k = a then u else getI r k
theorem getI_bump (m : List (α × Int)) (k : α) (n : Int) (k' : α) : getI (bump m k n) k' = if k' = k then getI m k + n else getI m k' := by
  induction m with
  | nil => by_cases h : k' = k <;> simp [bump, getI, h]
  | cons x r ih =>
    obtain ⟨a, u⟩ := x
    by_cases h : k = a
    · subst h
      by_cases h' : k' = k
      · subst h'; simp [bump, getI]
      · simp [bump, getI, h']
    · by_cases h' : k' = a
      · subst h'
        have : ¬ k' = k := fun e => h e.symm
        simp [bump, getI, h, this]
      · simp [bump, getI, h, h', ih]
theorem keys_bump (m : List (α × Int)) (k : α) (n : Int) : (bump m k n).map (·.1) = if k ∈ m.map (·.1) then m.map (·.1) else m.map (·.1) ++ [k] := by
  induction m with
  | nil => simp [bump]
  | cons x r ih =>
    obtain ⟨a, u⟩ := x
    by_cases h : k = a
    · subst h; simp [bump]
    · simp only [bump, h, if_false, List.map_cons, ih, List.mem_cons, false_or]
      split <;> simp
theorem bump_nodup {m : List (α × Int)} (h : (m.map (·.1)).Nodup) (k : α) (n : Int) : ((bump m k n).map (·.1)).Nodup := by
  rw [keys_bump]
  split
  · exact h
  · rename_i hm; exact List.nodup_append.2 ⟨h, by simp, fun a ha b hb => by simp at hb; subst hb; exact fun e => hm (e ▸ ha)⟩
theorem bump_len (m : List (α × Int)) (k : α) (n : Int) : (bump m k n).length ≤ m.length + 1 := by
  have := congrArg List.length (keys_bump m k n)
  rw [List.length_map] at this
  rw [this]
  split <;> simp
theorem mem_getI {m : List (α × Int)} (h : (m.map (·.1)).Nodup) (k : α) (n : Int) : (k, n) ∈ m ↔ k ∈ m.map (·.1) ∧ n = getI m k := by
  induction m with
  | nil => simp
  | cons x r ih =>
    obtain ⟨a, u⟩ := x
    simp only [List.map_cons, List.nodup_cons] at h
    by_cases hk : k = a
    · subst hk
      simp only [List.mem_cons, Prod.mk.injEq, true_and, List.map_cons, getI, if_true, true_or]
      constructor
      · rintro (h1 | h1)
        · exact h1
        · exact absurd (List.mem_map.2 ⟨_, h1, rfl⟩) h.1
      · exact .inl
    · simp only [List.mem_cons, Prod.mk.injEq, hk, false_and, false_or, List.map_cons, getI, if_false, ih h.2]
def setI : List (α × Int) → α → Int → List (α × Int)
  | [], k, n => [(k, n)]
  | (a, u) :: r, k, n => if k = a then (a, n) :: r else (a, u) :: setI r k n
theorem getI_setI (m : List (α × Int)) (k : α) (n : Int) (k' : α) : getI (setI m k n) k' = if k' = k then n else getI m k' := by
  induction m with
  | nil => by_cases h : k' = k <;> simp [setI, getI, h]
  | cons x r ih =>
    obtain ⟨a, u⟩ := x
    by_cases h : k = a
    · subst h
      by_cases h' : k' = k
      · subst h'; simp [setI, getI]
      · simp [setI, getI, h']
    · by_cases h' : k' = a
      · subst h'
        have : ¬ k' = k := fun e => h e.symm
        simp [setI, getI, h, this]
      · simp [setI, getI, h, h', ih]
end
/-- The sum of the N of what has a key. -/
def wsum : List Cnt → K → Int
  | [], _ => 0
  | c :: r, k => (if key c = k then c.2.2 else 0) + wsum r k
theorem wsum_append (a b : List Cnt) (k : K) : wsum (a ++ b) k = wsum a k + wsum b k := by
  induction a with
  | nil => simp [wsum]
  | cons c r ih => simp only [List.cons_append, wsum, ih]; omega
theorem wsum_perm {a b : List Cnt} (h : a.Perm b) (k : K) : wsum a k = wsum b k := by
  induction h with
  | nil => rfl
  | cons c _ ih => simp only [wsum, ih]
  | swap c d l => simp only [wsum]; omega
  | trans _ _ h1 h2 => exact h1.trans h2
theorem wsum_none {a : List Cnt} {k : K} (h : k ∉ a.map key) : wsum a k = 0 := by
  induction a with
  | nil => rfl
  | cons c r ih =>
    simp only [List.map_cons, List.mem_cons, not_or] at h
    have h0 : ¬ key c = k := fun e => h.1 e.symm
    simp [wsum, ih h.2, h0]
theorem wsum_one {a : List Cnt} (hn : (a.map key).Nodup) {c : Cnt} (hc : c ∈ a) : wsum a (key c) = c.2.2 := by
  induction a with
  | nil => simp at hc
  | cons d r ih =>
    simp only [List.map_cons, List.nodup_cons] at hn
    rcases List.mem_cons.1 hc with rfl | hc
    · simp only [wsum, if_true, wsum_none hn.1, Int.add_zero]
    · have : key d ≠ key c := fun e => hn.1 (e ▸ List.mem_map.2 ⟨c, hc, rfl⟩)
      simp only [wsum, if_neg this, ih hn.2 hc, Int.zero_add]
def tally (m : List (K × Int)) (cs : List Cnt) : List (K × Int) := cs.foldl (fun m c => bump m (key c) c.2.2) m
theorem tally_snoc (m : List (K × Int)) (cs : List Cnt) (c : Cnt) : tally m (cs ++ [c]) = bump (tally m cs) (key c) c.2.2 := by simp [tally]
theorem tally_app (m : List (K × Int)) (cs ds : List Cnt) : tally m (cs ++ ds) = tally (tally m cs) ds := by simp [tally]
theorem tally_nodup {m : List (K × Int)} (h : (m.map (·.1)).Nodup) (cs : List Cnt) : ((tally m cs).map (·.1)).Nodup := by
  induction cs generalizing m with
  | nil => exact h
  | cons c r ih => exact ih (bump_nodup h _ _)
theorem tally_get (m : List (K × Int)) (cs : List Cnt) (k : K) : getI (tally m cs) k = getI m k + wsum cs k := by
  induction cs generalizing m with
  | nil => simp [tally, wsum]
  | cons c r ih =>
    show getI (tally (bump m (key c) c.2.2) r) k = _
    rw [ih, getI_bump]
    simp only [wsum]
    by_cases h : k = key c
    · subst h; simp; omega
    · rw [if_neg h, if_neg (fun e => h e.symm)]; omega
theorem tally_keys (m : List (K × Int)) (cs : List Cnt) (k : K) : k ∈ (tally m cs).map (·.1) ↔ k ∈ m.map (·.1) ∨ k ∈ cs.map key := by
  induction cs generalizing m with
  | nil => simp [tally]
  | cons c r ih =>
    show k ∈ (tally (bump m (key c) c.2.2) r).map (·.1) ↔ _
    rw [ih, keys_bump, List.map_cons, List.mem_cons]
    by_cases h : key c ∈ m.map (·.1)
    · rw [if_pos h]
      constructor
      · rintro (h1 | h1)
        · exact .inl h1
        · exact .inr (.inr h1)
      · rintro (h1 | rfl | h1)
        · exact .inl h1
        · exact .inl h
        · exact .inr h1
    · rw [if_neg h, List.mem_append, List.mem_singleton]
      constructor
      · rintro ((h1 | h1) | h1)
        · exact .inl h1
        · exact .inr (.inl h1)
        · exact .inr (.inr h1)
      · rintro (h1 | h1 | h1)
        · exact .inl (.inl h1)
        · exact .inl (.inr h1)
        · exact .inr h1
theorem tally_len (m : List (K × Int)) (cs : List Cnt) : (tally m cs).length ≤ m.length + cs.length := by
  induction cs generalizing m with
  | nil => simp [tally]
  | cons c r ih =>
    have h1 := ih (bump m (key c) c.2.2)
    have h2 := bump_len m (key c) c.2.2
    show (tally (bump m (key c) c.2.2) r).length ≤ _
    simp only [List.length_cons]; omega
/-- The counts of what was added up, in their order. -/
structure IsW (cs ys : List Cnt) : Prop where
  lt : ys.Pairwise fun a b => ltk (key a) (key b) = true
  mem : ∀ c, c ∈ ys ↔ key c ∈ cs.map key ∧ c.2.2 = wsum cs (key c)
theorem sorted_unique : ∀ {a b : List Cnt}, a.Pairwise (fun a b => ltk (key a) (key b) = true) → b.Pairwise (fun a b => ltk (key a) (key b) = true) → (∀ c, c ∈ a ↔ c ∈ b) → a = b
  | [], [], _, _, _ => rfl
  | [], y :: s, _, _, h => absurd ((h y).2 (by simp)) (by simp)
  | x :: r, [], _, _, h => absurd ((h x).1 (by simp)) (by simp)
  | x :: r, y :: s, ha, hb, h => by
    rw [List.pairwise_cons] at ha hb
    have hxy : x = y := by
      rcases List.mem_cons.1 ((h x).1 (by simp)) with h1 | h1
      · exact h1
      · rcases List.mem_cons.1 ((h y).2 (by simp)) with h2 | h2
        · exact h2.symm
        · have h3 := hb.1 x h1
          have h4 := ha.1 y h2
          rw [ltk_asym h3] at h4; cases h4
    subst hxy
    have hr : ∀ c, c ∈ r ↔ c ∈ s := by
      intro c
      constructor
      · intro hc
        rcases List.mem_cons.1 ((h c).1 (by simp [hc])) with rfl | h1
        · have := ha.1 c hc; rw [ltk_irrefl] at this; cases this
        · exact h1
      · intro hc
        rcases List.mem_cons.1 ((h c).2 (by simp [hc])) with rfl | h1
        · have := hb.1 c hc; rw [ltk_irrefl] at this; cases this
        · exact h1
    rw [sorted_unique ha.2 hb.2 hr]
theorem IsW.unique {cs ys zs : List Cnt} (h : IsW cs ys) (h' : IsW cs zs) : ys = zs := sorted_unique h.lt h'.lt fun c => by rw [h.mem, h'.mem]
theorem IsW.perm {cs ds ys : List Cnt} (h : IsW cs ys) (hp : cs.Perm ds) : IsW ds ys := ⟨h.lt, fun c => by rw [h.mem, wsum_perm hp, (hp.map key).mem_iff]⟩
def toC (p : K × Int) : Cnt := (p.1.1, p.1.2, p.2)
theorem IsW.of {cs ys : List Cnt} (hp : ys.Perm ((tally [] cs).map toC)) (hs : ys.Pairwise fun a b => ltk (key b) (key a) = false) : IsW cs ys := by
  have hnd := tally_nodup (m := []) (by simp) cs
  have hkey : ((tally [] cs).map toC).map key = (tally [] cs).map (·.1) := by rw [List.map_map]; rfl
  have hnd2 : (ys.map key).Nodup := by
    refine (hp.map key).nodup_iff.2 ?_
    rw [hkey]; exact hnd
  refine ⟨?_, fun c => ?_⟩
  · have h2 : ys.Pairwise fun a b => key a ≠ key b := List.pairwise_map.1 hnd2
    refine (hs.and h2).imp ?_
    rintro a b ⟨h1, h3⟩
    cases h4 : ltk (key a) (key b) with
    | true => rfl
    | false => exact absurd (ltk_tri h4 h1) h3
  · rw [hp.mem_iff, List.mem_map]
    constructor
    · rintro ⟨p, hp, rfl⟩
      obtain ⟨k, n⟩ := p
      have h1 := (mem_getI hnd k n).1 hp
      rw [tally_keys, tally_get] at h1
      refine ⟨h1.1.elim (fun h => by simp at h) id, ?_⟩
      show n = wsum cs k
      rw [h1.2, getI, Int.zero_add]
    · rintro ⟨h1, h2⟩
      refine ⟨(key c, c.2.2), (mem_getI hnd _ _).2 ⟨(tally_keys _ _ _).2 (.inr h1), ?_⟩, rfl⟩
      rw [tally_get, h2]; simp [getI]
theorem IsW.nodup {cs ys : List Cnt} (h : IsW cs ys) : (ys.map key).Nodup := by
  refine List.pairwise_map.2 (h.lt.imp ?_)
  intro a b hab e
  rw [e, ltk_irrefl] at hab; cases hab
/-- All twice: each count doubled. -/
def dbl (c : Cnt) : Cnt := (c.1, c.2.1, 2 * c.2.2)
theorem IsW.dbl {cs ys : List Cnt} (h : IsW cs ys) : IsW (cs ++ cs) (ys.map dbl) := by
  refine ⟨List.pairwise_map.2 (h.lt.imp fun h => h), fun c => ?_⟩
  rw [List.mem_map, List.map_append, List.mem_append, wsum_append]
  constructor
  · rintro ⟨d, hd, rfl⟩
    obtain ⟨h1, h2⟩ := (h.mem d).1 hd
    exact ⟨.inl h1, by show 2 * d.2.2 = wsum cs (key d) + wsum cs (key d); omega⟩
  · rintro ⟨h1, h2⟩
    refine ⟨(c.1, c.2.1, wsum cs (key c)), (h.mem _).2 ⟨?_, rfl⟩, ?_⟩
    · exact h1.elim id id
    · show (c.1, c.2.1, 2 * wsum cs (key c)) = c
      have : c.2.2 = 2 * wsum cs (key c) := by omega
      rw [← this]
/-- The counts merged with themselves. -/
theorem IsW.self {cs ys : List Cnt} (h : IsW cs ys) : IsW ys ys := ⟨h.lt, fun c => by
  constructor
  · intro hc; exact ⟨List.mem_map.2 ⟨c, hc, rfl⟩, (wsum_one h.nodup hc).symm⟩
  · rintro ⟨h1, h2⟩
    obtain ⟨d, hd, he⟩ := List.mem_map.1 h1
    rw [← he, wsum_one h.nodup hd] at h2
    have : c = d := by
      obtain ⟨a, b, n⟩ := c
      obtain ⟨a', b', n'⟩ := d
      simp only [key, Prod.mk.injEq] at he
      obtain ⟨rfl, rfl⟩ := he
      simp only at h2
      rw [h2]
    rw [this]; exact hd⟩
end Go.Proofs.YtfeegacmmfgjfaaGreatDoorM

/-!  Package counts: what is counted. -/
set_option linter.unusedVariables false
namespace Go.Proofs.YtfeegacmmfgjfaaGreatDoorM
abbrev Tok := Str × Str
def cnt1 (k : K) : Cnt := (k.1, k.2, 1)
/-- The pairs of a tag and the next cnt1: last is the cnt1 ahead. -/
def nxs : Str → List Tok → List K
  | _, [] => []
  | last, t :: r => (last, t.2) :: nxs t.2 r
def lst : Str → List Tok → Str
  | last, [] => last
  | _, t :: r => lst t.2 r
def nx (s : List Tok) : List K := nxs [] s ++ [(lst [] s, [])]
def em (s : List Tok) : List K := s.map fun t => (t.2, t.1)
def csN (l : List (List Tok)) : List Cnt := (l.flatMap nx).map cnt1
def csE (l : List (List Tok)) : List Cnt := (l.flatMap em).map cnt1
def tokOk (t : Tok) : Bool := isNm t.1 && isNm t.2
def allOk (l : List (List Tok)) : Bool := l.all fun s => s.all tokOk
theorem nxs_snoc (last : Str) (r : List Tok) (t : Tok) : nxs last (r ++ [t]) = nxs last r ++ [(lst last r, t.2)] := by
  induction r generalizing last with
  | nil => rfl
  | cons x r ih => simp [nxs, lst, ih]
theorem lst_snoc (last : Str) (r : List Tok) (t : Tok) : lst last (r ++ [t]) = t.2 := by
  induction r generalizing last with
  | nil => rfl
  | cons x r ih => simp [lst, ih]
theorem nxs_len (last : Str) (r : List Tok) : (nxs last r).length = r.length := by
  induction r generalizing last with
  | nil => rfl
  | cons x r ih => simp [nxs, ih]
theorem csN_snoc (l : List (List Tok)) (s : List Tok) : csN (l ++ [s]) = csN l ++ ((nxs [] s).map cnt1 ++ [cnt1 (lst [] s, [])]) := by simp [csN, nx]
theorem csE_snoc (l : List (List Tok)) (s : List Tok) : csE (l ++ [s]) = csE l ++ (em s).map cnt1 := by simp [csE]
theorem len_flat {α β : Type} (f : α → List β) (c : Nat) (l : List α) (h : ∀ x ∈ l, (f x).length ≤ c) : (l.flatMap f).length ≤ c * l.length := by
  induction l with
  | nil => simp
  | cons x r ih =>
    have h1 := h x (by simp)
    have h2 := ih fun y hy => h y (by simp [hy])
    simp only [List.flatMap_cons, List.length_append, List.length_cons, Nat.mul_add]
    omega
theorem csN_len (l : List (List Tok)) (h : ∀ s ∈ l, s.length ≤ 4) : (csN l).length ≤ 5 * l.length := by
  unfold csN
  rw [List.length_map]
  exact len_flat nx 5 l fun s hs => by have := h s hs; simp [nx, nxs_len]; omega
theorem csE_len (l : List (List Tok)) (h : ∀ s ∈ l, s.length ≤ 4) : (csE l).length ≤ 4 * l.length := by
  unfold csE
  rw [List.length_map]
  exact len_flat em 4 l fun s hs => by have := h s hs; simp [em]; omega
theorem wsum_le {cs : List Cnt} {M : Int} (h : ∀ c ∈ cs, 0 ≤ c.2.2 ∧ c.2.2 ≤ M) (k : K) : 0 ≤ wsum cs k ∧ wsum cs k ≤ M * cs.length := by
  induction cs with
  | nil => simp [wsum]
  | cons c r ih =>
    have h1 := h c (by simp)
    have h2 := ih fun d hd => h d (by simp [hd])
    have h3 : M * ((c :: r).length : Int) = M * r.length + M := by
      rw [List.length_cons]; push_cast; rw [Int.mul_add, Int.mul_one]
    simp only [wsum]
    rw [h3]
    split <;> omega
theorem cnt1_le {ks : List K} : ∀ c ∈ ks.map cnt1, 0 ≤ c.2.2 ∧ c.2.2 ≤ 1 := by
  intro c hc
  obtain ⟨k, _, rfl⟩ := List.mem_map.1 hc
  exact ⟨by show (0 : Int) ≤ 1; decide, Int.le_refl _⟩
theorem tally_le {cs : List Cnt} {M : Int} (h : ∀ c ∈ cs, 0 ≤ c.2.2 ∧ c.2.2 ≤ M) (k : K) : 0 ≤ getI (tally [] cs) k ∧ getI (tally [] cs) k ≤ M * cs.length := by
  rw [tally_get, getI, Int.zero_add]
  exact wsum_le h k
end Go.Proofs.YtfeegacmmfgjfaaGreatDoorM

/-!  Package counts: the keys; the counts of a map in their order. -/
set_option linter.unusedVariables false
set_option maxRecDepth 10000
namespace Go.Proofs.YtfeegacmmfgjfaaGreatDoorX
open Go Go.RowKit Go.Proofs Go.Proofs.YtfeegacmmfgjfaaGreatDoorM
theorem keySS : KeyT Tryz.prog 54 eSS where
  check b k w := by
    have h9 : ∀ n, (Instr.checkKey b (n + 1) 9 (.string (str k.1))).run Tryz.prog w = .ok () w := fun n => by simp [Instr.checkKey, run_underlying Tryz.underlying9]
    have h9' : ∀ n, (Instr.checkKey b (n + 1) 9 (.string (str k.2))).run Tryz.prog w = .ok () w := fun n => by simp [Instr.checkKey, run_underlying Tryz.underlying9]
    have h : ∀ n, (Instr.checkKey b (n + 2) 54 (eSS k)).run Tryz.prog w = .ok () w := fun n => by
      have p0 := ti9.run_isAgg w
      have p1 : TD.agg TD.str = false := rfl
      rw [p1] at p0
      unfold eSS
      rw [Instr.checkKey]
      simp only [Sem.run_bind, run_underlying Tryz.underlying54, Result.andThen_ok]
      simp [part, p0, h9, h9']
    exact h 9998
  find := find_of_ask Tryz.underlying54 (fun k a => rfl) fun k a w => by
    have p0 := ti9.run_isAgg w
    have p1 : TD.agg TD.str = false := rfl
    rw [p1] at p0
    have h := run_equalIn_struct (P := Tryz.prog) w 9999 54 #[.string (str k.1), .string (str k.2)] #[.string (str a.1), .string (str a.2)] (by rw [Program.fieldsOf, Tryz.underlying54]) (by kernel_rfl)
    show (Op.equalIn 10000 54 (eSS k) (eSS a)).run Tryz.prog w = _
    refine h.trans ?_
    rw [Program.fieldsOf, Tryz.underlying54]
    have hs : ∀ d (x y : List UInt8), (Op.equalIn (d + 1) 9 (.string (str x)) (.string (str y))).run Tryz.prog w = .ok (decide (x = y)) w := fun d x y => by
      rw [run_equalIn_string w d 9 _ _ Tryz.underlying9, ← beq_toListBytes, str_beq]
    have hs1 := hs 9998
    simp [Op.eqFields, part, p0, hs1, Sem.run_ite]
    by_cases h1 : k.1 = a.1
    · by_cases h2 : k.2 = a.2
      · simp [h1, h2, Prod.ext_iff]
      · simp [h1, h2, Prod.ext_iff]
    · simp [h1, Prod.ext_iff]
  same k := by
    have h : ∀ n, Instr.sameBits (n + 1) (eSS k) (eSS k) = true := fun n => by cases n <;> simp [eSS, Instr.sameBits, str_beq]
    exact h 9999
/-- The entries of a map to ints. -/
def ei {α : Type} (l : List (α × Int)) : List (α × Value) := l.map fun p => (p.1, .int .i64 p.2)

theorem ei_get {l : List ((List UInt8 × List UInt8) × Int)} {i : Nat} {k : List UInt8 × List UInt8} {v : Value} (h : (ei l)[i]? = some (k, v)) : ∃ n, l[i]? = some (k, n) ∧ v = .int .i64 n := by
  unfold ei at h
  rw [List.getElem?_map] at h
  obtain ⟨p, hp, he⟩ := Option.map_eq_some_iff.1 h
  cases he
  exact ⟨p.2, hp, rfl⟩
theorem sorted_ (b : Nat) (l : List ((List UInt8 × List UInt8) × Int)) (w : World) (hb : w.heap[b]? = some (mapO eSS (ei l))) (hl : l.length ≤ 100000) :
    Ret Tryz.prog 16 #[.map (some b)] w fun v w' => ∃ ys : List Cnt, ys.Perm (l.map toC) ∧ ys.Pairwise (fun a b => ltk (key b) (key a) = false) ∧ Fresh kCnt 60 w w' v ys := by
  have hel : (ei l).length = l.length := by simp [ei]
  refine fn_ret tok Tryz.func16 (by kernel_rfl) rfl rfl ?_
  (conv => whnf)
  refine sem_range tok rfl rfl hb fun r w1 hw1 => ?_
  (conv => whnf)
  have hr0 := hw1.blk
  have hE1 : Ext w w1 := hw1.chg _
  have hrn : w.heap.size ≤ r := by rw [hw1.hb]; exact Nat.le_refl _
  have hbw := hE1.blk hb (fun h => h)
  refine loop_gh tok 0 [2] [0, 6] [2] (fun m vs w' => ∃ v seen, vs = [v] ∧ Fresh kCnt 60 w w' v (seen.map fun i => toC (l.getD i default)) ∧ seen.Nodup ∧ (∀ i ∈ seen, i < l.length) ∧ w'.heap[r]? = some (iterO b (ei l).length seen) ∧ w'.heap[b]? = some (mapO eSS (ei l)) ∧ v.ownBlock ≠ some r ∧ r < w'.heap.size ∧ m = l.length - seen.length)
    (fun vs w' => ∃ v ys, vs = [v] ∧ Fresh kCnt 60 w w' v ys ∧ ys.Perm (l.map toC)) ?_
  (conv => whnf)
  refine ⟨⟨l.length, _, [], rfl, .nil _ _ hE1, .nil, by simp, hr0, hbw, by simp [Value.ownBlock], by rw [hw1.size, hw1.hb]; omega, by simp⟩, ?_, ?_⟩
  · rintro m _ w2 ⟨v, seen, rfl, hF, hnd, hlt, hr, hb2, hvr, hrlt, rfl⟩
    (conv => whnf)
    refine sem_next rfl hr hb2 rfl (fun hall => ?_) (fun i k u w3 hi hni hC hr3 hsz => ?_)
    · (conv => whnf)
      refine ⟨⟨rfl, rfl⟩, v, _, rfl, hF, ?_⟩
      rw [hel] at hall
      have hp : seen.Perm (List.range l.length) := (List.perm_ext_iff_of_nodup hnd List.nodup_range).2 fun a => by
        rw [List.mem_range]
        exact ⟨fun h => hlt a h, fun h => hall a h⟩
      have h2 := hp.map fun i => toC (l.getD i default)
      refine h2.trans (List.Perm.of_eq ?_)
      apply List.ext_getElem?
      intro j
      by_cases hj : j < l.length
      · simp [hj]
      · simp [hj]
    · obtain ⟨n, hn, rfl⟩ := ei_get hi
      have hil : i < l.length := (List.getElem?_eq_some_iff.1 hn).1
      have hb3 := hC.blk hb2 (fun e => by rw [← e, hb2] at hr; cases hr)
      have hF3 : Fresh kCnt 60 w w3 v (seen.map fun i => toC (l.getD i default)) := kCnt_flat.stay hF hC (fun j hj => by omega) (fun j hj e => hvr (e ▸ hj))
      (conv => whnf)
      refine sem_entry_ rfl hr3 hb3 rfl hi ?_
      (conv => whnf)
      intro b4 w4 hw4
      obtain ⟨w5, hr5, hb5, hC5⟩ := store_blk (P := Tryz.prog) (vs := [.string (str k.1), .string (str k.2)]) hw4.blk rfl (by intro v hv; simp at hv; rcases hv with rfl | rfl <;> rfl)
      (conv => whnf)
      refine ⟨rfl, w5, hr5, ?_⟩
      have hb4n : w3.heap.size ≤ b4 := by rw [hw4.hb]; exact Nat.le_refl _
      have hE5 : Ext w3 w5 := (hw4.chg No).then hC5 fun i hi hm => by omega
      have c0 : w5.cell? ⟨b4, 0, none⟩ = some (.string (str k.1)) := by rw [cell_of_blk hb5]; rfl
      have c1 : w5.cell? ⟨b4, 1, none⟩ = some (.string (str k.2)) := by rw [cell_of_blk hb5]; rfl
      (conv => whnf)
      refine ⟨_, by rw [addr_add]; exact c0, ?_⟩
      (conv => whnf)
      refine ⟨_, by rw [addr_add]; exact c1, ?_⟩
      (conv => whnf)
      intro b6 w6 hw6
      (conv => whnf)
      have hF5 := hF3.up hE5
      have hlen : seen.length < l.length := by
        have h1 : (seen ++ [i]).Nodup := List.nodup_append.2 ⟨hnd, by simp, fun a ha b hb e => by simp at hb; subst hb; subst e; exact hni ha⟩
        have h2 := h1.length_le_of_subset (l₂ := List.range l.length) (fun a ha => by
          rw [List.mem_range]
          rcases List.mem_append.1 ha with h | h
          · exact hlt a h
          · simp at h; omega)
        simp at h2; omega
      refine kCnt_flat.app (x := (k.1, k.2, n)) tok rfl rfl rfl rfl rfl hw6 hF5 rfl (by simp; omega) (by simp; omega) (fun v7 w7 hF7 hC7 hown => ?_)
      (conv => whnf)
      have hr5' := (hw6.chg No).blk (hE5.blk hr3 (fun h => h)) (fun h => h)
      have hb5' := (hw6.chg No).blk (hE5.blk hb3 (fun h => h)) (fun h => h)
      have hE6 : Ext w5 w6 := hw6.chg No
      have hsz5 : w3.heap.size ≤ w5.heap.size := hE5.size
      refine ⟨⟨rfl, rfl⟩, _, ?_, v7, seen ++ [i], rfl, ?_, ?_, ?_, ?_, ?_, ?_, ?_, rfl⟩
      · simp; omega
      · have he : (seen ++ [i]).map (fun i => toC (l.getD i default)) = (seen.map fun i => toC (l.getD i default)) ++ [(k.1, k.2, n)] := by
          rw [List.map_append, List.map_singleton, List.getD_eq_getElem?_getD, hn]; rfl
        rw [he]; exact hF7
      · exact List.nodup_append.2 ⟨hnd, by simp, fun a ha b hb e => by simp at hb; subst hb; subst e; exact hni ha⟩
      · intro a ha
        rcases List.mem_append.1 ha with h | h
        · exact hlt a h
        · simp at h; omega
      · exact hC7.blk (hE5.blk hr3 (fun h => h)) (fun e => hvr e)
      · exact hC7.blk (hE5.blk hb3 (fun h => h)) (fun e => by
          have := (hF.newB e).1
          have := (Array.getElem?_eq_some_iff.1 hb).1
          omega)
      · intro e
        rcases hown _ e with h | h
        · exact hvr h
        · omega
      · have := hC7.size
        omega
  · rintro _ w2 ⟨v, ys, rfl, hF, hp⟩
    (conv => whnf)
    refine (sortC w w2 v ys hF (by rw [hp.length_eq]; simp; omega)).call ?_
    rintro _ w3 ⟨rfl, zs, hz1, hz2, hz3, hz4⟩
    (conv => whnf)
    exact ⟨zs, hz1.trans hp, hz2, hz3⟩
end Go.Proofs.YtfeegacmmfgjfaaGreatDoorX

/-!  The framework, part J: where the orders of a region meet. -/
set_option linter.unusedVariables false
namespace Go.Proofs.YtfeegacmmfgjfaaGreatDoorX
open Go
variable {P : Program} {τ : TT} {n : Nat}
def meetQ (outs : List Nat) (J : List Value → World → Prop) (D : List Deferred) (Q : XQ) : XQ
  | .normal, D', E', w' => gets E' outs fun vs => D' = D ∧ J vs w'
  | e, D', E', w' => Q e D' E' w'
theorem draw_meet {id : Nat} {ops : Array Oper} {Q : XQ} {D : List Deferred} {E : Env} {w : World} (outs : List Nat) (J : List Value → World → Prop) (h : DrawP P τ n id ops (meetQ outs J D Q) D E w)
    (hJ : ∀ vs w', J vs w' → Q .normal D (zipE outs vs []) w') : DrawP P τ n id ops Q D E w := by
  refine ⟨⟨fun a hf hd => wp_mono (h.out.out a hf hd) ?_⟩⟩
  rintro e a2 w2 ⟨E2, hf2, h2⟩
  cases e with
  | normal =>
    have hf3 := hf2.resolve_right (fun h => h)
    obtain ⟨vs, ⟨hD, hJ'⟩, _, hz⟩ := gets_out outs _ h2
    exact lift_mk (hz n a2.tmps [] hf3 hf3.nil') (hD ▸ hJ vs w2 hJ')
  | _ => exact ⟨E2, hf2, h2⟩
/-- The same; what comes behind is not seen within. -/
theorem draw_box {id : Nat} {ops : Array Oper} {Q : XQ} {D : List Deferred} {E : Env} {w : World} (outs : List Nat) (J : List Value → World → Prop) (h : DrawP P τ n id ops (meetQ outs J D (fun _ _ _ _ => False)) D E w)
    (hJ : ∀ vs w', J vs w' → Q .normal D (zipE outs vs []) w') : DrawP P τ n id ops Q D E w := by
  refine ⟨⟨fun a hf hd => wp_mono (h.out.out a hf hd) ?_⟩⟩
  rintro e a2 w2 ⟨E2, hf2, h2⟩
  cases e with
  | normal =>
    have hf3 := hf2.resolve_right (fun h => h)
    obtain ⟨vs, ⟨hD, hJ'⟩, _, hz⟩ := gets_out outs _ h2
    exact lift_mk (hz n a2.tmps [] hf3 hf3.nil') (hD ▸ hJ vs w2 hJ')
  | _ => exact h2.elim
/-- A loop that is left by its own exit alone: what comes behind is not seen within. -/
theorem loop_box (hτ : TOk P τ) (id : Nat) (slots keep outs : List Nat) (I : List Value → World → Prop) (μ : List Value → World → Nat) (J : List Value → World → Prop) {c : Code} {Q : XQ} {D : List Deferred} {E : Env} {w : World}
    (h : gets E keep fun fs => (gets E slots fun vs => I vs w) ∧ (∀ vs w, I vs w → xcode P τ n c (cutQ id outs keep slots fs I J (fun vs' w' => μ vs' w' < μ vs w) D (fun _ _ _ _ => False)) D (zipE slots vs (zipE keep fs [])) w) ∧
      ∀ vs w, J vs w → Q (.exit id) D (zipE outs vs (zipE keep fs [])) w) : LoopP P τ n c Q D E w := by
  refine ⟨⟨?_⟩⟩
  intro a hf hd
  obtain ⟨fs', ⟨h1, hr, hx⟩, hl2, hz2⟩ := gets_out keep _ h
  obtain ⟨vs, hI, hl, hz⟩ := gets_out slots _ h1
  have hF := hz n a.tmps _ hf (hz2 n a.tmps [] hf hf.nil')
  refine wp_loop_ghost (fun m a' w' => ∃ vs', I vs' w' ∧ μ vs' w' = m ∧ Fits n (zipE slots vs' (zipE keep fs' [])) a'.tmps ∧ a'.defers = D) _ ⟨vs, hI, rfl, hF, hd⟩ ?_
  rintro m a1 w1 ⟨vs1, hI1, rfl, hf1, hd1⟩
  refine wp_mono (xcode_sound hτ c _ D _ w1 (hr vs1 w1 hI1) a1 hf1 hd1) ?_
  rintro e a2 w2 ⟨E2, hf2, h2⟩
  cases e with
  | normal =>
    have hf2 := hf2.resolve_right (fun h => h)
    obtain ⟨fs2, h3, _, hz3⟩ := gets_out keep _ h2
    obtain ⟨vs2, ⟨⟨hD, rfl⟩, hI2, hlt⟩, _, hz4⟩ := gets_out slots _ h3
    exact ⟨_, hlt, vs2, hI2, rfl, hz4 n a2.tmps _ hf2 (hz3 n a2.tmps [] hf2 hf2.nil'), hD⟩
  | exit j =>
    have hf3 := hf2.resolve_right (fun h => h)
    simp only [cutQ] at h2
    split at h2
    · rename_i hb
      obtain rfl := Nat.eq_of_beq_eq_true hb
      obtain ⟨fs2, h3, _, hz3⟩ := gets_out keep _ h2
      obtain ⟨vs2, ⟨⟨hD, rfl⟩, hJ⟩, _, hz4⟩ := gets_out outs _ h3
      exact lift_mk (hz4 n a2.tmps _ hf3 (hz3 n a2.tmps [] hf3 hf3.nil')) (by rw [hD]; exact hx vs2 w2 hJ)
    · exact h2.elim
  | _ => exact h2.elim
end Go.Proofs.YtfeegacmmfgjfaaGreatDoorX

/-!  Package counts: Count. -/
set_option linter.unusedVariables false
set_option maxRecDepth 10000
namespace Go.Proofs.YtfeegacmmfgjfaaGreatDoorX
open Go Go.RowKit Go.Proofs Go.Proofs.YtfeegacmmfgjfaaGreatDoorM
theorem ei_getD {α : Type} [DecidableEq α] (m : List (α × Int)) (k : α) : (aget (ei m) k).getD (.int .i64 0) = .int .i64 (getI m k) := by
  induction m with
  | nil => rfl
  | cons x r ih =>
    obtain ⟨a, u⟩ := x
    by_cases h : k = a
    · subst h; simp [ei, aget, getI]
    · simp only [ei, List.map_cons, aget, getI, h, if_false] at ih ⊢; exact ih
theorem ei_bump {α : Type} [DecidableEq α] (m : List (α × Int)) (k : α) (n : Int) : aset (ei m) k (.int .i64 (getI m k + n)) = ei (bump m k n) := by
  induction m with
  | nil => simp [ei, aset, bump, getI]
  | cons x r ih =>
    obtain ⟨a, u⟩ := x
    by_cases h : k = a
    · subst h; simp [ei, aset, bump, getI]
    · simp only [ei, List.map_cons, aset, bump, getI, h, if_false] at ih ⊢; rw [ih]
theorem ei_set {α : Type} [DecidableEq α] (m : List (α × Int)) (k : α) (n : Int) : aset (ei m) k (.int .i64 n) = ei (setI m k n) := by
  induction m with
  | nil => simp [ei, aset, setI]
  | cons x r ih =>
    obtain ⟨a, u⟩ := x
    by_cases h : k = a
    · subst h; simp [ei, aset, setI]
    · simp only [ei, List.map_cons, aset, setI, h, if_false] at ih ⊢; rw [ih]
theorem aget_aset_self {α : Type} [DecidableEq α] (l : List (α × Value)) (k : α) (v : Value) : aget (aset l k v) k = some v := by rw [aset_get, if_pos rfl]

section
variable {mo x y : Operand} {E : Env} {K' : Value → World → Prop} {w : World} {b : Nat} {m : List (K × Int)} {k : K} {ty : TypeId}
theorem sem_look (hm : ev E mo = some (.map (some b))) (hx : ev E x = some (eSS k)) (hb : w.heap[b]? = some (mapO eSS (ei m))) (hK : K' (.int .i64 (getI m k)) w) : SemOp Tryz.prog (.lookup 49 mo x false) ty E w K' := by
  refine sem_lookup tok (i := ⟨.int .i64, 1, 8, .int .i64 0⟩) (kt := 54) (e := 3) rfl rfl keySS hm hx hb false ?_
  rw [if_neg (by decide), ei_getD]
  exact hK
theorem sem_room (hm : ev E mo = some (.map (some b))) (hx : ev E x = some (eSS k)) (hb : w.heap[b]? = some (mapO eSS (ei m))) (hK : ∀ w', SetO w b (mapO eSS (aset (ei m) k (.int .i64 (getI m k)))) w' → K' (.tuple #[.int .i64 (getI m k), .int .i64 (apos (ei m) k : Nat)]) w') : SemOp Tryz.prog (.mapEntry 49 mo x) ty E w K' := by
  refine sem_entry tok (i := ⟨.int .i64, 1, 8, .int .i64 0⟩) (kt := 54) (e := 3) rfl rfl keySS hm hx hb ?_
  rw [ei_getD]
  exact hK
theorem sem_look2 (hm : ev E mo = some (.map (some b))) (hx : ev E x = some (eSS k)) (hb : w.heap[b]? = some (mapO eSS (aset (ei m) k (.int .i64 (getI m k))))) (hK : K' (.int .i64 (getI m k)) w) : SemOp Tryz.prog (.lookup 49 mo x false) ty E w K' := by
  refine sem_lookup tok (i := ⟨.int .i64, 1, 8, .int .i64 0⟩) (kt := 54) (e := 3) rfl rfl keySS hm hx hb false ?_
  rw [if_neg (by decide), aget_aset_self]
  exact hK
theorem sem_put {u : Value} {n : Int} (hm : ev E mo = some (.map (some b))) (hx : ev E x = some (.int .i64 (apos (ei m) k : Nat))) (hy : ev E y = some (.int .i64 (getI m k + n))) (hb : w.heap[b]? = some (mapO eSS (aset (ei m) k u))) (hK : ∀ w', SetO w b (mapO eSS (ei (bump m k n))) w' → K' undef w') : SemOp Tryz.prog (.entryStore 49 mo x y) ty E w K' := by
  refine sem_estore (k := k) hm (by rw [aset_pos]; exact hx) hy hb (aget_aset_self _ _ _) ?_
  rw [aset_aset, ei_bump]
  exact hK
end
-- both orders of reading and of making room for an entry
theorem allOk_no {l : List (List Tok)} {s : List Tok} {t : Tok} (hs : s ∈ l) (ht : t ∈ s) (h : tokOk t = false) : allOk l = false := by
  cases ha : allOk l with
  | false => rfl
  | true =>
    unfold allOk at ha
    rw [List.all_eq_true] at ha
    have := ha s hs
    rw [List.all_eq_true] at this
    rw [this t ht] at h; cases h
theorem eTok_rep {S : Nat → Prop} {w : World} {x : List UInt8 × List UInt8} {cs : List Value} (h : kTok.rep S w x cs) : cs = [.string (str x.1), .string (str x.2)] := (kTok_flat.rep S w x cs).1 h
theorem count (S : Nat → Prop) (A : Option Addr) (n c : Nat) (l : List (List Tok)) (w : World) (h : SlR (kSl kTok) S w (.slice A n c) l) (hl : l.length ≤ 8) (hl4 : ∀ s ∈ l, s.length ≤ 4) (hlen : ∀ s ∈ l, ∀ t ∈ s, t.1.length ≤ 9223372036854775807 ∧ t.2.length ≤ 9223372036854775807) :
    Ret Tryz.prog 5 #[.slice A n c] w fun v w' => Ext w w' ∧ ((allOk l = true ∧ ∃ v1 v2 ys1 ys2, v = .tuple #[.agg #[v1, v2], .int .i64 0] ∧ IsW (csN l) ys1 ∧ IsW (csE l) ys2 ∧ Fresh kCnt 60 w w' v1 ys1 ∧ Fresh kCnt 60 w w' v2 ys2) ∨
      (allOk l = false ∧ v = .tuple #[.agg #[.slice none 0 0, .slice none 0 0], .int .i64 1])) := by
  obtain ⟨rfl, hc, hm⟩ := h.len
  have h := h.old
  refine fn_ret tok Tryz.func5 (by kernel_rfl) rfl rfl ?_
  (conv => whnf)
  intro b2 w1 hw1
  (conv => whnf)
  refine condP_no (by omega) ?_
  (conv => whnf)
  intro b4 w2 hw2
  (conv => whnf)
  intro b5 w3 hw3
  have hE3 : Ext w w3 := ((hw1.chg No).trans (hw2.chg No)).trans (hw3.chg No)
  have hn2 := hw1.hb
  have hn4 := hw2.hb
  have hn5 := hw3.hb
  have hs1 := hw1.size
  have hs2 := hw2.size
  have hs3 := hw3.size
  have hb2 := (hw3.chg No).blk ((hw2.chg No).blk hw1.blk (fun h => h)) (fun h => h)
  have hm4 : w3.heap[b4]? = some (mapO eSS (ei (tally [] []))) := (hw3.chg No).blk hw2.blk (fun h => h)
  have hm5 : w3.heap[b5]? = some (mapO eSS (ei (tally [] []))) := hw3.blk
  have h3 := h.ext hE3
  clear hw1 hw2 hw3
  (conv => whnf)
  refine loop_rule tok [19] [0, 2, 4, 5, 17, 18] (fun vs w' => ∃ i : Nat, vs = [.int .i64 i] ∧ i ≤ l.length ∧ allOk (l.take i) = true ∧ Chg (fun j => j = b4 ∨ j = b5) w3 w' ∧ w'.heap[b4]? = some (mapO eSS (ei (tally [] (csN (l.take i))))) ∧ w'.heap[b5]? = some (mapO eSS (ei (tally [] (csE (l.take i)))))) (fun vs w => match vs with | [.int _ i] => l.length - i.toNat | _ => 0) ?_
  (conv => whnf)
  refine ⟨⟨0, rfl, Nat.zero_le _, rfl, .refl _ _, hm4, hm5⟩, ?_⟩
  rintro _ w4 ⟨i, rfl, hi, hok, hC4, hm4, hm5⟩
  (conv => whnf)
  refine condP_dec (fun h1 => ?_) (fun h1 => ?_)
  · have hil : i < l.length := by omega
    obtain ⟨s, hsi⟩ : ∃ s, l[i]? = some s := ⟨_, List.getElem?_eq_getElem hil⟩
    have hsm : s ∈ l := List.mem_of_getElem? hsi
    obtain ⟨ad, _, rfl, hadS, ⟨sv, rfl, hsv⟩, hca⟩ := h3.get hsi
    have hadS : ad.block < w.heap.size := hadS
    have hcell : w4.cell? (ad.add ((i : Int).toNat * 1)) = some sv := by
      have := cellsAt_zero hca (u := sv) rfl
      rw [Int.toNat_natCast]
      exact hC4.cell this (by rw [add_block]; omega)
    obtain ⟨As, cs_, rfl, hcs, hcm⟩ := hsv.shape
    have hs4 := hl4 s hsm
    (repeat ((conv => whnf); first | refine numP_i64 (by omega) ?_ | refine numP_u64 (by omega) ?_ | refine numP_u8 (by omega) ?_ | refine Exists.intro _ (And.intro ‹_› ?_) | refine Exists.intro _ (And.intro rfl ?_) | refine And.intro (by omega) (Exists.intro _ (And.intro rfl ?_)) | refine And.intro (by omega) ?_)); (conv => whnf)
    refine condP_no (by omega) ?_
    (conv => whnf)
    have htk : l.take (i + 1) = l.take i ++ [s] := by rw [List.take_add_one, hsi]; rfl
    refine loop_rule tok [8, 29] [0, 2, 4, 5, 17, 18, 19, 27, 28] (fun vs w' => ∃ j : Nat, vs = [.string (str (lst [] (s.take j))), .int .i64 j] ∧ j ≤ s.length ∧ (s.take j).all tokOk = true ∧ Chg (fun j => j = b4 ∨ j = b5) w3 w' ∧ w'.heap[b4]? = some (mapO eSS (ei (tally [] (csN (l.take i) ++ (nxs [] (s.take j)).map cnt1)))) ∧ w'.heap[b5]? = some (mapO eSS (ei (tally [] (csE (l.take i) ++ (em (s.take j)).map cnt1))))) (fun vs w => match vs with | [_, .int _ j] => s.length - j.toNat | _ => 0) ?_
    (conv => whnf)
    refine ⟨⟨0, rfl, Nat.zero_le _, rfl, hC4, by simpa [nxs] using hm4, by simpa [em] using hm5⟩, ?_⟩
    clear hm4 hm5 hca hcell
    rintro _ w5 ⟨j, rfl, hj, hjok, hC5, hm4, hm5⟩
    (conv => whnf)
    refine condP_dec (fun h2 => ?_) (fun h2 => ?_)
    · have hjl : j < s.length := by omega
      obtain ⟨t, htj⟩ : ∃ t, s[j]? = some t := ⟨_, List.getElem?_eq_getElem hjl⟩
      have hts : t ∈ s := List.mem_of_getElem? htj
      obtain ⟨ht1, ht2⟩ := hlen s hsm t hts
      obtain ⟨ad2, _, rfl, had2, hrep, hca2⟩ := hsv.get htj
      obtain rfl := eTok_rep hrep
      have had2 : ad2.block < w.heap.size := had2
      have hca5 := cellsAt_chg hC5 hca2 (by rw [add_block]; omega)
      (repeat ((conv => whnf); first | refine numP_i64 (by omega) ?_ | refine numP_u64 (by omega) ?_ | refine numP_u8 (by omega) ?_ | refine Exists.intro _ (And.intro ‹_› ?_) | refine Exists.intro _ (And.intro rfl ?_) | refine And.intro (by omega) (Exists.intro _ (And.intro rfl ?_)) | refine And.intro (by omega) ?_)); (conv => whnf)
      refine ⟨[.string (str t.1), .string (str t.2)], rfl, by rw [Int.toNat_natCast]; exact hca5, ?_⟩
      (conv => whnf)
      intro b10 w6 hw6
      obtain ⟨w7, hr7, hb7, hC7⟩ := store_blk (P := Tryz.prog) (vs := [.string (str t.1), .string (str t.2)]) hw6.blk rfl (by intro v hv; simp at hv; rcases hv with rfl | rfl <;> rfl)
      (conv => whnf)
      refine ⟨rfl, w7, hr7, ?_⟩
      have hb10 : w5.heap.size ≤ b10 := by rw [hw6.hb]; exact Nat.le_refl _
      have hE7 : Ext w5 w7 := (hw6.chg No).then hC7 fun i hi hm => by omega
      clear hr7 hC7 hw6
      have hm4 := hE7.blk hm4 (fun h => h)
      have hm5 := hE7.blk hm5 (fun h => h)
      have hC7 : Chg (fun j => j = b4 ∨ j = b5) w3 w7 := hC5.ext hE7
      have hsz7 := hC7.size
      have hsz5 := hC5.size
      (conv => whnf)
      refine ⟨_, by rw [addr_add, cell_of_blk hb7]; rfl, ?_⟩
      (conv => whnf)
      refine (isName t.1 w7 ht1).call ?_
      rintro _ w8 ⟨rfl, rfl⟩
      refine condP_not (condP_cases (fun hk1 => ?_) (fun hk1 => ?_))
      rotate_left
      · have hbad : tokOk t = false := by unfold tokOk; rw [hk1]; rfl
        (conv => whnf)
        obtain ⟨w9, hr9, hb9, hC9⟩ := store_blk (P := Tryz.prog) (vs := [.slice none 0 0, .slice none 0 0]) (hC7.blk hb2 (by omega)) rfl (by intro v hv; simp at hv; rcases hv with rfl | rfl <;> rfl)
        refine ⟨rfl, w9, hr9, ?_⟩
        (conv => whnf)
        refine ⟨_, rfl, cellsAt_blk hb9, ?_⟩
        refine ⟨(hE3.then hC7 fun i hi hm => by omega).then hC9 fun i hi hm => by omega, .inr ⟨allOk_no hsm hts hbad, rfl⟩⟩
      (conv => whnf)
      refine ⟨_, by rw [addr_add, cell_of_blk hb7]; rfl, ?_⟩
      (conv => whnf)
      refine (isName t.2 w8 ht2).call ?_
      rintro _ w7 ⟨rfl, rfl⟩
      (conv => whnf)
      refine condP_not (condP_cases (fun hk2 => ?_) (fun hk2 => ?_))
      rotate_left
      · have hbad : tokOk t = false := by unfold tokOk; rw [hk1, hk2]; rfl
        (conv => whnf)
        obtain ⟨w9, hr9, hb9, hC9⟩ := store_blk (P := Tryz.prog) (vs := [.slice none 0 0, .slice none 0 0]) (hC7.blk hb2 (by omega)) rfl (by intro v hv; simp at hv; rcases hv with rfl | rfl <;> rfl)
        refine ⟨rfl, w9, hr9, ?_⟩
        (conv => whnf)
        refine ⟨_, rfl, cellsAt_blk hb9, ?_⟩
        refine ⟨(hE3.then hC7 fun i hi hm => by omega).then hC9 fun i hi hm => by omega, .inr ⟨allOk_no hsm hts hbad, rfl⟩⟩
      have hgood : tokOk t = true := by unfold tokOk; rw [hk1, hk2]; rfl
      (conv => whnf)
      have hb1 := tally_le (cs := csN (l.take i) ++ (nxs [] (s.take j)).map cnt1) (M := 1) (fun c hc => by
        rw [csN, ← List.map_append] at hc; exact cnt1_le c hc) (lst [] (s.take j), t.2)
      have hN1 := csN_len (l.take i) (fun s hs => hl4 s (List.mem_of_mem_take hs))
      rw [List.length_append, List.length_map, nxs_len, List.length_take, Nat.min_eq_left hj] at hb1
      have hlt := List.length_take_le i l
      refine draw_meet [0, 2, 4, 5, 10, 17, 18, 19, 27, 28, 29] (fun vs w' => vs = [.slice (some ad) l.length c, .pointer (some ⟨b2, 0, none⟩), .map (some b4), .map (some b5), .pointer (some ⟨b10, 0, none⟩), .slice (some ad) l.length c, .int .i64 (l.length : Nat), .int .i64 i, .slice (some ad2) s.length cs_, .int .i64 (s.length : Nat), .int .i64 j] ∧
        w'.heap[b4]? = some (mapO eSS (ei (bump (tally [] (csN (l.take i) ++ (nxs [] (s.take j)).map cnt1)) (lst [] (s.take j), t.2) 1))) ∧ Chg (fun a => a = b4) w7.drew w' ∧ w'.heap.size = w7.heap.size) ?_ ?_
      · refine draw_held tok mixed (fun w' => w'.heap[b10]? = some (.cells #[.string (str t.1), .string (str t.2)] 51 (0, 0)))
          (ones [0, 1, 2, 3, 4] (.alt 5 (ones [6] (.alt 7 (ones [8] (.alt 9 .done .nil)) .nil)) (.alt 7 (ones [8] (.alt 5 (ones [6] (.alt 9 .done .nil)) .nil)) .nil))) (by decide +kernel) (by decide +kernel) hb7 ?_
        (conv => whnf)
        refine ⟨_, fun w' h => (by rw [addr_add, cell_of_blk h]; rfl), ?_⟩
        (conv => whnf)
        have hmB : w7.drew.heap[b4]? = _ := hm4
        have hS0 : w7.drew.heap[b10]? = _ := hb7
        have hneB : ¬ b10 = b4 := by omega
        let mB := b4
        let kB : K := (lst [] (s.take j), t.2)
        have hbB : 0 ≤ getI (tally [] (csN (l.take i) ++ (nxs [] (s.take j)).map cnt1)) kB ∧ getI (tally [] (csN (l.take i) ++ (nxs [] (s.take j)).map cnt1)) kB ≤ 100 := ⟨hb1.1, Int.le_trans hb1.2 (by omega)⟩
        refine ⟨?_, ?_, trivial⟩
        · refine sem_look (k := kB) rfl rfl hmB ?_
          (conv => whnf)
          refine ⟨hS0, ?_⟩
          (repeat ((conv => whnf); first | refine numP_i64 (by omega) ?_ | refine numP_u64 (by omega) ?_ | refine numP_u8 (by omega) ?_ | refine Exists.intro _ (And.intro ‹_› ?_) | refine Exists.intro _ (And.intro rfl ?_) | refine And.intro (by omega) (Exists.intro _ (And.intro rfl ?_)) | refine And.intro (by omega) ?_)); (conv => whnf)
          refine ⟨?_, trivial⟩
          refine sem_room (k := kB) rfl rfl hmB fun wb hwb => ?_
          (conv => whnf)
          refine ⟨(hwb.chg (fun i => i = mB) rfl).blk hS0 hneB, ?_⟩
          (conv => whnf)
          refine ⟨?_, trivial⟩
          refine sem_put (k := kB) rfl rfl rfl (hwb.blk hmB) fun wc hwc => ?_
          have hCC := (hwb.chg (fun i => i = mB) rfl).trans (hwc.chg (fun i => i = mB) rfl)
          (conv => whnf)
          refine ⟨hCC.blk hS0 hneB, ?_⟩
          (conv => whnf)
          exact ⟨rfl, rfl, hwc.blk (hwb.blk hmB), hCC, hwc.size.trans hwb.size⟩
        · refine sem_room (k := kB) rfl rfl hmB fun wb hwb => ?_
          (conv => whnf)
          refine ⟨(hwb.chg (fun i => i = mB) rfl).blk hS0 hneB, ?_⟩
          (conv => whnf)
          refine ⟨?_, trivial⟩
          refine sem_look2 (k := kB) rfl rfl (hwb.blk hmB) ?_
          (conv => whnf)
          refine ⟨(hwb.chg (fun i => i = mB) rfl).blk hS0 hneB, ?_⟩
          (repeat ((conv => whnf); first | refine numP_i64 (by omega) ?_ | refine numP_u64 (by omega) ?_ | refine numP_u8 (by omega) ?_ | refine Exists.intro _ (And.intro ‹_› ?_) | refine Exists.intro _ (And.intro rfl ?_) | refine And.intro (by omega) (Exists.intro _ (And.intro rfl ?_)) | refine And.intro (by omega) ?_)); (conv => whnf)
          refine ⟨?_, trivial⟩
          refine sem_put (k := kB) rfl rfl rfl (hwb.blk hmB) fun wc hwc => ?_
          have hCC := (hwb.chg (fun i => i = mB) rfl).trans (hwc.chg (fun i => i = mB) rfl)
          (conv => whnf)
          refine ⟨hCC.blk hS0 hneB, ?_⟩
          (conv => whnf)
          exact ⟨rfl, rfl, hwc.blk (hwb.blk hmB), hCC, hwc.size.trans hwb.size⟩
      rintro _ w9 ⟨rfl, hm4', hC9, hsz9⟩
      (conv => whnf)
      have hC79 : Chg (fun a => a = b4) w7 w9 := (Chg.drew _ _).trans hC9
      have hb7 := hC79.blk hb7 (by omega)
      have hm5 := hC79.blk hm5 (by omega)
      have hC9 : Chg (fun j => j = b4 ∨ j = b5) w3 w9 := hC7.then hC79 fun i hi hm => .inl hm
      clear hb1
      have hb1 := tally_le (cs := csE (l.take i) ++ (em (s.take j)).map cnt1) (M := 1) (fun c hc => by
        rw [csE, ← List.map_append] at hc; exact cnt1_le c hc) (t.2, t.1)
      have hN1 := csE_len (l.take i) (fun s hs => hl4 s (List.mem_of_mem_take hs))
      have hel : (em (s.take j)).length = j := by simp [em, hj]
      rw [List.length_append, List.length_map, hel] at hb1
      refine draw_meet [0, 2, 4, 5, 10, 17, 18, 19, 27, 28, 29] (fun vs w' => vs = [.slice (some ad) l.length c, .pointer (some ⟨b2, 0, none⟩), .map (some b4), .map (some b5), .pointer (some ⟨b10, 0, none⟩), .slice (some ad) l.length c, .int .i64 (l.length : Nat), .int .i64 i, .slice (some ad2) s.length cs_, .int .i64 (s.length : Nat), .int .i64 j] ∧
        w'.heap[b5]? = some (mapO eSS (ei (bump (tally [] (csE (l.take i) ++ (em (s.take j)).map cnt1)) (t.2, t.1) 1))) ∧ Chg (fun a => a = b5) w9.drew w' ∧ w'.heap.size = w9.heap.size) ?_ ?_
      · refine draw_held tok mixed (fun w' => w'.heap[b10]? = some (.cells #[.string (str t.1), .string (str t.2)] 51 (0, 0)))
          (ones [0, 1, 2, 3, 4, 5] (.alt 6 (ones [7] (.alt 8 (ones [9] (.alt 10 .done .nil)) .nil)) (.alt 8 (ones [9] (.alt 6 (ones [7] (.alt 10 .done .nil)) .nil)) .nil))) (by decide +kernel) (by decide +kernel) hb7 ?_
        (conv => whnf)
        refine ⟨_, fun w' h => (by rw [addr_add, cell_of_blk h]; rfl), ?_⟩
        (conv => whnf)
        refine ⟨_, fun w' h => (by rw [addr_add, cell_of_blk h]; rfl), ?_⟩
        (conv => whnf)
        have hmB : w9.drew.heap[b5]? = _ := hm5
        have hS0 : w9.drew.heap[b10]? = _ := hb7
        have hneB : ¬ b10 = b5 := by omega
        let mB := b5
        let kB : K := (t.2, t.1)
        have hbB : 0 ≤ getI (tally [] (csE (l.take i) ++ (em (s.take j)).map cnt1)) kB ∧ getI (tally [] (csE (l.take i) ++ (em (s.take j)).map cnt1)) kB ≤ 100 := ⟨hb1.1, Int.le_trans hb1.2 (by omega)⟩
        refine ⟨?_, ?_, trivial⟩
        · refine sem_look (k := kB) rfl rfl hmB ?_
          (conv => whnf)
          refine ⟨hS0, ?_⟩
          (repeat ((conv => whnf); first | refine numP_i64 (by omega) ?_ | refine numP_u64 (by omega) ?_ | refine numP_u8 (by omega) ?_ | refine Exists.intro _ (And.intro ‹_› ?_) | refine Exists.intro _ (And.intro rfl ?_) | refine And.intro (by omega) (Exists.intro _ (And.intro rfl ?_)) | refine And.intro (by omega) ?_)); (conv => whnf)
          refine ⟨?_, trivial⟩
          refine sem_room (k := kB) rfl rfl hmB fun wb hwb => ?_
          (conv => whnf)
          refine ⟨(hwb.chg (fun i => i = mB) rfl).blk hS0 hneB, ?_⟩
          (conv => whnf)
          refine ⟨?_, trivial⟩
          refine sem_put (k := kB) rfl rfl rfl (hwb.blk hmB) fun wc hwc => ?_
          have hCC := (hwb.chg (fun i => i = mB) rfl).trans (hwc.chg (fun i => i = mB) rfl)
          (conv => whnf)
          refine ⟨hCC.blk hS0 hneB, ?_⟩
          (conv => whnf)
          exact ⟨rfl, rfl, hwc.blk (hwb.blk hmB), hCC, hwc.size.trans hwb.size⟩
        · refine sem_room (k := kB) rfl rfl hmB fun wb hwb => ?_
          (conv => whnf)
          refine ⟨(hwb.chg (fun i => i = mB) rfl).blk hS0 hneB, ?_⟩
          (conv => whnf)
          refine ⟨?_, trivial⟩
          refine sem_look2 (k := kB) rfl rfl (hwb.blk hmB) ?_
          (conv => whnf)
          refine ⟨(hwb.chg (fun i => i = mB) rfl).blk hS0 hneB, ?_⟩
          (repeat ((conv => whnf); first | refine numP_i64 (by omega) ?_ | refine numP_u64 (by omega) ?_ | refine numP_u8 (by omega) ?_ | refine Exists.intro _ (And.intro ‹_› ?_) | refine Exists.intro _ (And.intro rfl ?_) | refine And.intro (by omega) (Exists.intro _ (And.intro rfl ?_)) | refine And.intro (by omega) ?_)); (conv => whnf)
          refine ⟨?_, trivial⟩
          refine sem_put (k := kB) rfl rfl rfl (hwb.blk hmB) fun wc hwc => ?_
          have hCC := (hwb.chg (fun i => i = mB) rfl).trans (hwc.chg (fun i => i = mB) rfl)
          (conv => whnf)
          refine ⟨hCC.blk hS0 hneB, ?_⟩
          (conv => whnf)
          exact ⟨rfl, rfl, hwc.blk (hwb.blk hmB), hCC, hwc.size.trans hwb.size⟩
      rintro _ w10 ⟨rfl, hm5', hC10, hsz10⟩
      (conv => whnf)
      have hC910 : Chg (fun a => a = b5) w9 w10 := (Chg.drew _ _).trans hC10
      have hb7 := hC910.blk hb7 (by omega)
      have hm4' := hC910.blk hm4' (by omega)
      have hC10 : Chg (fun j => j = b4 ∨ j = b5) w3 w10 := hC9.then hC910 fun i hi hm => .inr hm
      refine ⟨_, by rw [addr_add, cell_of_blk hb7]; rfl, ?_⟩
      (repeat ((conv => whnf); first | refine numP_i64 (by omega) ?_ | refine numP_u64 (by omega) ?_ | refine numP_u8 (by omega) ?_ | refine Exists.intro _ (And.intro ‹_› ?_) | refine Exists.intro _ (And.intro rfl ?_) | refine And.intro (by omega) (Exists.intro _ (And.intro rfl ?_)) | refine And.intro (by omega) ?_)); (conv => whnf)
      have htj' : s.take (j + 1) = s.take j ++ [t] := by rw [List.take_add_one, htj]; rfl
      refine ⟨⟨rfl, rfl⟩, ⟨j + 1, ?_, by omega, ?_, hC10, ?_, ?_⟩, by simp; omega⟩
      · rw [htj', lst_snoc]; rfl
      · rw [htj', List.all_append, hjok]; simp [hgood]
      · rw [htj', nxs_snoc, List.map_append, ← List.append_assoc]
        show _ = some (mapO eSS (ei (tally [] (_ ++ [cnt1 _]))))
        rw [tally_snoc]; exact hm4'
      · rw [htj', show em (s.take j ++ [t]) = em (s.take j) ++ [(t.2, t.1)] by simp [em], List.map_append, ← List.append_assoc]
        show _ = some (mapO eSS (ei (tally [] (_ ++ [cnt1 _]))))
        rw [tally_snoc]; exact hm5'
    · obtain rfl : j = s.length := by omega
      rw [List.take_length] at hm4 hm5 hjok ⊢
      (conv => whnf)
      have hsz5 := hC5.size
      have hb2' := hC5.blk hb2 (by omega)
      have hb1 := tally_le (cs := csN (l.take i) ++ (nxs [] s).map cnt1) (M := 1) (fun c hc => by
        rw [csN, ← List.map_append] at hc; exact cnt1_le c hc) (lst [] s, [])
      have hN1 := csN_len (l.take i) (fun s hs => hl4 s (List.mem_of_mem_take hs))
      rw [List.length_append, List.length_map, nxs_len] at hb1
      have hlt := List.length_take_le i l
      refine draw_meet [0, 2, 4, 5, 17, 18, 19] (fun vs w' => vs = [.slice (some ad) l.length c, .pointer (some ⟨b2, 0, none⟩), .map (some b4), .map (some b5), .slice (some ad) l.length c, .int .i64 (l.length : Nat), .int .i64 i] ∧
        w'.heap[b4]? = some (mapO eSS (ei (bump (tally [] (csN (l.take i) ++ (nxs [] s).map cnt1)) (lst [] s, []) 1))) ∧ Chg (fun a => a = b4) w5.drew w' ∧ w'.heap.size = w5.heap.size) ?_ ?_
      · refine draw_held tok mixed (fun w' => w'.heap[b2]? = some (.cells #[.slice none 0 0, .slice none 0 0] 28 (0, 0)))
          (ones [0, 1, 2] (.alt 3 (ones [4] (.alt 5 (ones [6] (.alt 7 .done .nil)) .nil)) (.alt 5 (ones [6] (.alt 3 (ones [4] (.alt 7 .done .nil)) .nil)) .nil))) (by decide +kernel) (by decide +kernel) hb2' ?_
        (conv => whnf)
        have hmB : w5.drew.heap[b4]? = _ := hm4
        have hS0 : w5.drew.heap[b2]? = _ := hb2'
        have hneB : ¬ b2 = b4 := by omega
        let mB := b4
        let kB : K := (lst [] s, [])
        have hbB : 0 ≤ getI (tally [] (csN (l.take i) ++ (nxs [] s).map cnt1)) kB ∧ getI (tally [] (csN (l.take i) ++ (nxs [] s).map cnt1)) kB ≤ 100 := ⟨hb1.1, Int.le_trans hb1.2 (by omega)⟩
        refine ⟨?_, ?_, trivial⟩
        · refine sem_look (k := kB) rfl rfl hmB ?_
          (conv => whnf)
          refine ⟨hS0, ?_⟩
          (repeat ((conv => whnf); first | refine numP_i64 (by omega) ?_ | refine numP_u64 (by omega) ?_ | refine numP_u8 (by omega) ?_ | refine Exists.intro _ (And.intro ‹_› ?_) | refine Exists.intro _ (And.intro rfl ?_) | refine And.intro (by omega) (Exists.intro _ (And.intro rfl ?_)) | refine And.intro (by omega) ?_)); (conv => whnf)
          refine ⟨?_, trivial⟩
          refine sem_room (k := kB) rfl rfl hmB fun wb hwb => ?_
          (conv => whnf)
          refine ⟨(hwb.chg (fun i => i = mB) rfl).blk hS0 hneB, ?_⟩
          (conv => whnf)
          refine ⟨?_, trivial⟩
          refine sem_put (k := kB) rfl rfl rfl (hwb.blk hmB) fun wc hwc => ?_
          have hCC := (hwb.chg (fun i => i = mB) rfl).trans (hwc.chg (fun i => i = mB) rfl)
          (conv => whnf)
          refine ⟨hCC.blk hS0 hneB, ?_⟩
          (conv => whnf)
          exact ⟨rfl, rfl, hwc.blk (hwb.blk hmB), hCC, hwc.size.trans hwb.size⟩
        · refine sem_room (k := kB) rfl rfl hmB fun wb hwb => ?_
          (conv => whnf)
          refine ⟨(hwb.chg (fun i => i = mB) rfl).blk hS0 hneB, ?_⟩
          (conv => whnf)
          refine ⟨?_, trivial⟩
          refine sem_look2 (k := kB) rfl rfl (hwb.blk hmB) ?_
          (conv => whnf)
          refine ⟨(hwb.chg (fun i => i = mB) rfl).blk hS0 hneB, ?_⟩
          (repeat ((conv => whnf); first | refine numP_i64 (by omega) ?_ | refine numP_u64 (by omega) ?_ | refine numP_u8 (by omega) ?_ | refine Exists.intro _ (And.intro ‹_› ?_) | refine Exists.intro _ (And.intro rfl ?_) | refine And.intro (by omega) (Exists.intro _ (And.intro rfl ?_)) | refine And.intro (by omega) ?_)); (conv => whnf)
          refine ⟨?_, trivial⟩
          refine sem_put (k := kB) rfl rfl rfl (hwb.blk hmB) fun wc hwc => ?_
          have hCC := (hwb.chg (fun i => i = mB) rfl).trans (hwc.chg (fun i => i = mB) rfl)
          (conv => whnf)
          refine ⟨hCC.blk hS0 hneB, ?_⟩
          (conv => whnf)
          exact ⟨rfl, rfl, hwc.blk (hwb.blk hmB), hCC, hwc.size.trans hwb.size⟩
      rintro _ w9 ⟨rfl, hm4', hC9, hsz9⟩
      (repeat ((conv => whnf); first | refine numP_i64 (by omega) ?_ | refine numP_u64 (by omega) ?_ | refine numP_u8 (by omega) ?_ | refine Exists.intro _ (And.intro ‹_› ?_) | refine Exists.intro _ (And.intro rfl ?_) | refine And.intro (by omega) (Exists.intro _ (And.intro rfl ?_)) | refine And.intro (by omega) ?_)); (conv => whnf)
      have hC59 : Chg (fun a => a = b4) w5 w9 := (Chg.drew _ _).trans hC9
      refine ⟨⟨rfl, rfl⟩, ⟨i + 1, rfl, by omega, ?_, hC5.then hC59 fun i hi hm => .inl hm, ?_, ?_⟩, by simp; omega⟩
      · rw [htk]; unfold allOk at hok ⊢; rw [List.all_append, hok]; simpa using hjok
      · rw [htk, csN_snoc, ← List.append_assoc, tally_snoc]; exact hm4'
      · rw [htk, csE_snoc]; exact hC59.blk hm5 (by omega)
  · obtain rfl : i = l.length := by omega
    rw [List.take_length] at hm4 hm5 hok
    (conv => whnf)
    have hN1 := csN_len l hl4
    have hE1 := csE_len l hl4
    have hln := tally_len [] (csN l)
    have hle := tally_len [] (csE l)
    have eln : (ei (tally [] (csN l))).length = (tally [] (csN l)).length := by simp [ei]
    have ele : (ei (tally [] (csE l))).length = (tally [] (csE l)).length := by simp [ei]
    simp only [List.length_nil, Nat.zero_add] at hln hle
    refine sem_len_map tok rfl rfl hm4 ?_
    (conv => whnf)
    refine condP_no (by omega) ?_
    refine sem_len_map tok rfl rfl hm5 ?_
    (conv => whnf)
    refine condP_no (by omega) ?_
    (conv => whnf)
    refine (sorted_ b4 _ w4 hm4 (by omega)).call ?_
    rintro v1 w5 ⟨ys1, hp1, hso1, hF1⟩
    (conv => whnf)
    refine (sorted_ b5 _ w5 (hF1.ext.blk hm5 (fun h => h)) (by omega)).call ?_
    rintro v2 w6 ⟨ys2, hp2, hso2, hF2⟩
    have hE3w : Ext w w4 := hE3.then hC4 fun i hi hm => by omega
    have hE46 : Ext w4 w6 := hF1.ext.trans hF2.ext
    have hE6 : Ext w w6 := hE3w.trans hE46
    obtain ⟨A1, c1, rfl, _⟩ := hF1.shape
    obtain ⟨A2, c2, rfl, _⟩ := hF2.shape
    have hb2' := hE46.blk (hC4.blk hb2 (by omega)) (fun h => h)
    obtain ⟨w7, hr7, hb7, hC7⟩ := store_blk (P := Tryz.prog) (vs := [.slice A1 ys1.length c1, .slice A2 ys2.length c2]) hb2' rfl (by intro v hv; simp at hv; rcases hv with rfl | rfl <;> rfl)
    (conv => whnf)
    refine ⟨rfl, w7, hr7, ?_⟩
    (conv => whnf)
    refine ⟨_, rfl, cellsAt_blk hb7, ?_⟩
    have hE7 : Ext w w7 := hE6.then hC7 fun i hi hm => by omega
    refine ⟨hE7, .inl ⟨hok, _, _, ys1, ys2, rfl, .of hp1 hso1, .of hp2 hso2, ?_, ?_⟩⟩
    · exact kCnt_flat.stay ((hF1.up hF2.ext).back hE3w) hC7 (fun b hb => by omega) fun b hb e => by
        have := (hF1.newB hb).1
        have := hC4.size
        omega
    · exact kCnt_flat.stay (hF2.back (hE3w.trans hF1.ext)) hC7 (fun b hb => by omega) fun b hb e => by
        have := (hF2.newB hb).1
        have := hC4.size
        have := hF1.ext.size
        omega
end Go.Proofs.YtfeegacmmfgjfaaGreatDoorX

/-!  slices.Grow and slices.Concat of counts. -/
set_option linter.unusedVariables false
set_option maxRecDepth 10000
namespace Go.Proofs.YtfeegacmmfgjfaaGreatDoorX
open Go Go.RowKit Go.Proofs Go.Proofs.YtfeegacmmfgjfaaGreatDoorM
theorem growC (m : Nat) (w : World) (hm : m ≤ 1000000) : Ret Tryz.prog 73 #[.slice none 0 0, .int .i64 (m : Nat)] w fun v w' => Fresh kCnt 60 w w' v [] := by
  refine fn_ret tok Tryz.func73 (by kernel_rfl) rfl rfl ?_
  (conv => whnf)
  refine condP_no (by omega) ?_
  (repeat ((conv => whnf); first | refine numP_i64 (by omega) ?_ | refine numP_u64 (by omega) ?_ | refine numP_u8 (by omega) ?_ | refine Exists.intro _ (And.intro ‹_› ?_) | refine Exists.intro _ (And.intro rfl ?_) | refine And.intro (by omega) (Exists.intro _ (And.intro rfl ?_)) | refine And.intro (by omega) ?_)); (conv => whnf)
  refine condP_dec (fun h => ?_) fun h => ?_
  · (repeat ((conv => whnf); first | refine numP_i64 (by omega) ?_ | refine numP_u64 (by omega) ?_ | refine numP_u8 (by omega) ?_ | refine Exists.intro _ (And.intro ‹_› ?_) | refine Exists.intro _ (And.intro rfl ?_) | refine And.intro (by omega) (Exists.intro _ (And.intro rfl ?_)) | refine And.intro (by omega) ?_)); (conv => whnf)
    refine sem_app_room (k := kCnt) (m := m) tok rfl rfl rfl rfl rfl rfl (by omega) (by omega) (by omega) fun g c w' hc hF => ?_
    (repeat ((conv => whnf); first | refine numP_i64 (by omega) ?_ | refine numP_u64 (by omega) ?_ | refine numP_u8 (by omega) ?_ | refine Exists.intro _ (And.intro ‹_› ?_) | refine Exists.intro _ (And.intro rfl ?_) | refine And.intro (by omega) (Exists.intro _ (And.intro rfl ?_)) | refine And.intro (by omega) ?_)); (conv => whnf)
    exact hF
  · (conv => whnf)
    exact .nil _ _ (.refl _ _)
theorem concatC (S : Nat → Prop) (A : Option Addr) (n c : Nat) (ls : List (List Cnt)) (w : World) (h : SlR (kSl kCnt) S w (.slice A n c) ls) (hl : ls.flatten.length ≤ 1000000) (hl2 : ls.length ≤ 1000000) :
    Ret Tryz.prog 39 #[.slice A n c] w fun v w' => Fresh kCnt 60 w w' v ls.flatten := by
  obtain ⟨rfl, hc, hm⟩ := h.len
  have h := h.old
  have hpre : ∀ i, (ls.take i).flatten.length ≤ ls.flatten.length := fun i => by
    have := congrArg (fun l => l.flatten.length) (List.take_append_drop i ls)
    simp only [List.flatten_append, List.length_append] at this
    omega
  have hstep : ∀ i x, ls[i]? = some x → (ls.take (i + 1)).flatten = (ls.take i).flatten ++ x := fun i x hx => by
    rw [List.take_add_one, hx]; simp
  refine fn_ret tok Tryz.func39 (by kernel_rfl) rfl rfl ?_
  (conv => whnf)
  refine loop_rule tok [3, 11] [0, 9, 10] (fun vs w' => ∃ i : Nat, vs = [.int .i64 ((ls.take i).flatten.length : Nat), .int .i64 i] ∧ i ≤ ls.length ∧ w' = w) (fun vs w => match vs with | [_, .int _ i] => ls.length - i.toNat | _ => 0) ?_
  (conv => whnf)
  refine ⟨⟨0, rfl, Nat.zero_le _, rfl⟩, ?_⟩
  rintro _ w ⟨i, rfl, hi, rfl⟩
  (conv => whnf)
  refine condP_dec (fun h1 => ?_) (fun h1 => ?_)
  · have hil : i < ls.length := by omega
    obtain ⟨x, hx⟩ : ∃ x, ls[i]? = some x := ⟨_, List.getElem?_eq_getElem hil⟩
    obtain ⟨ad, _, rfl, _, ⟨sv, rfl, hsv⟩, hca⟩ := h.get hx
    have hcell : w.cell? (ad.add ((i : Int).toNat * 1)) = some sv := by
      have := cellsAt_zero hca (u := sv) rfl
      rw [Int.toNat_natCast]; exact this
    obtain ⟨As, cs_, rfl, hcs, hcm⟩ := hsv.shape
    have h2 := hstep i x hx
    have h3 := congrArg List.length h2
    rw [List.length_append] at h3
    have h4 := hpre (i + 1)
    (repeat ((conv => whnf); first | refine numP_i64 (by omega) ?_ | refine numP_u64 (by omega) ?_ | refine numP_u8 (by omega) ?_ | refine Exists.intro _ (And.intro ‹_› ?_) | refine Exists.intro _ (And.intro rfl ?_) | refine And.intro (by omega) (Exists.intro _ (And.intro rfl ?_)) | refine And.intro (by omega) ?_)); (conv => whnf)
    refine condP_no (by omega) ?_
    (repeat ((conv => whnf); first | refine numP_i64 (by omega) ?_ | refine numP_u64 (by omega) ?_ | refine numP_u8 (by omega) ?_ | refine Exists.intro _ (And.intro ‹_› ?_) | refine Exists.intro _ (And.intro rfl ?_) | refine And.intro (by omega) (Exists.intro _ (And.intro rfl ?_)) | refine And.intro (by omega) ?_)); (conv => whnf)
    refine ⟨⟨rfl, rfl⟩, ⟨i + 1, ?_, by omega, rfl⟩, by simp; omega⟩
    rw [h3]; rfl
  · obtain rfl : i = ls.length := by omega
    rw [List.take_length] 
    (conv => whnf)
    refine (growC ls.flatten.length w hl).call ?_
    intro v w1 hF1
    (conv => whnf)
    have h1' := h.ext hF1.ext
    refine loop_rule tok [6, 27] [0, 25, 26] (fun vs w' => ∃ (i : Nat) (v : Value), vs = [v, .int .i64 i] ∧ i ≤ ls.length ∧ Fresh kCnt 60 w w' v (ls.take i).flatten) (fun vs w => match vs with | [_, .int _ i] => ls.length - i.toNat | _ => 0) ?_
    (conv => whnf)
    refine ⟨⟨0, v, rfl, Nat.zero_le _, hF1⟩, ?_⟩
    clear hF1
    rintro _ w2 ⟨i, v, rfl, hi, hF⟩
    have h2 := h.ext hF.ext
    (conv => whnf)
    refine condP_dec (fun h3 => ?_) (fun h3 => ?_)
    · have hil : i < ls.length := by omega
      obtain ⟨x, hx⟩ : ∃ x, ls[i]? = some x := ⟨_, List.getElem?_eq_getElem hil⟩
      obtain ⟨ad, _, rfl, _, ⟨sv, rfl, hsv⟩, hca⟩ := h2.get hx
      have hcell : w2.cell? (ad.add ((i : Int).toNat * 1)) = some sv := by
        have := cellsAt_zero hca (u := sv) rfl
        rw [Int.toNat_natCast]; exact this
      have h5 := hstep i x hx
      have h6 := congrArg List.length h5
      rw [List.length_append] at h6
      have h4 := hpre (i + 1)
      (repeat ((conv => whnf); first | refine numP_i64 (by omega) ?_ | refine numP_u64 (by omega) ?_ | refine numP_u8 (by omega) ?_ | refine Exists.intro _ (And.intro ‹_› ?_) | refine Exists.intro _ (And.intro rfl ?_) | refine And.intro (by omega) (Exists.intro _ (And.intro rfl ?_)) | refine And.intro (by omega) ?_)); (conv => whnf)
      refine kCnt_flat.app_all tok rfl rfl rfl rfl rfl hF hsv (fun b hb hS => ?_) (by omega) (by omega) fun v' w3 hF3 hC3 ho3 => ?_
      · have := (hF.newB hb).1
        have : b < w.heap.size := hS
        omega
      (repeat ((conv => whnf); first | refine numP_i64 (by omega) ?_ | refine numP_u64 (by omega) ?_ | refine numP_u8 (by omega) ?_ | refine Exists.intro _ (And.intro ‹_› ?_) | refine Exists.intro _ (And.intro rfl ?_) | refine And.intro (by omega) (Exists.intro _ (And.intro rfl ?_)) | refine And.intro (by omega) ?_)); (conv => whnf)
      refine ⟨⟨rfl, rfl⟩, ⟨i + 1, v', rfl, by omega, ?_⟩, by simp; omega⟩
      rw [h5]; exact hF3
    · obtain rfl : i = ls.length := by omega
      rw [List.take_length] at hF
      (conv => whnf)
      exact hF
end Go.Proofs.YtfeegacmmfgjfaaGreatDoorX

/-!  Package counts: what is valid. -/
set_option linter.unusedVariables false
set_option maxRecDepth 10000
namespace Go.Proofs.YtfeegacmmfgjfaaGreatDoorX
open Go Go.RowKit Go.Proofs Go.Proofs.YtfeegacmmfgjfaaGreatDoorM
theorem eCnt_rep {S : Nat → Prop} {w : World} {x : Cnt} {cs : List Value} (h : kCnt.rep S w x cs) : cs = [.string (str x.1), .string (str x.2.1), .int .i64 x.2.2] := (kCnt_flat.rep S w x cs).1 h
theorem SlR.cnt {S : Nat → Prop} {w : World} {ad : Addr} {m c : Nat} {xs : List Cnt} (h : SlR kCnt S w (.slice (some ad) m c) xs) {j : Nat} {x : Cnt} (hj : xs[j]? = some x) : CellsAt w (ad.add (j * 3)) [.string (str x.1), .string (str x.2.1), .int .i64 x.2.2] := by
  obtain ⟨ad', cs, he, hS, hr, hc⟩ := h.get hj
  cases he
  rw [← eCnt_rep hr]; exact hc
theorem SlR.some_ {α : Type} {k : Kd α} {S : Nat → Prop} {w : World} {A : Option Addr} {m c : Nat} {xs : List α} (h : SlR k S w (.slice A m c) xs) (h0 : 0 < xs.length) : ∃ ad, A = some ad := by
  obtain ⟨ad, _, rfl, _⟩ := h.get (List.getElem?_eq_getElem h0)
  exact ⟨ad, rfl⟩
theorem incC (S : Nat → Prop) (A : Option Addr) (n c : Nat) (xs : List Cnt) (w : World) (h : SlR kCnt S w (.slice A n c) xs) (hx : xs.Pairwise fun a b => ltk (key a) (key b) = true) :
    Ret Tryz.prog 72 #[.slice A n c, .func (.func 36) #[] #[]] w fun v w' => v = .bool true ∧ Ext w w' := by
  obtain ⟨rfl, hc, hm⟩ := h.len
  refine fn_ret tok Tryz.func72 (by kernel_rfl) rfl rfl ?_
  (conv => whnf)
  refine loop_rule tok [5] [0, 1] (fun vs w' => ∃ i : Nat, vs = [.int .i64 i] ∧ 1 ≤ i ∧ Ext w w') (fun vs w => match vs with | [.int _ i] => xs.length - i.toNat | _ => 0) ?_
  (conv => whnf)
  refine ⟨⟨1, rfl, by omega, .refl _ _⟩, ?_⟩
  rintro _ w1 ⟨i, rfl, hi, hE⟩
  (conv => whnf)
  refine condP_dec (fun h1 => ?_) (fun h1 => ?_)
  · obtain ⟨ad, rfl⟩ := h.some_ (by omega)
    obtain ⟨x, hx1⟩ : ∃ x, xs[i - 1]? = some x := ⟨_, List.getElem?_eq_getElem (by omega)⟩
    obtain ⟨y, hy1⟩ : ∃ y, xs[i]? = some y := ⟨_, List.getElem?_eq_getElem (by omega)⟩
    have hlt : ltk (key x) (key y) = true := by
      obtain ⟨h2, rfl⟩ := List.getElem?_eq_some_iff.1 hx1
      obtain ⟨h3, rfl⟩ := List.getElem?_eq_some_iff.1 hy1
      exact List.pairwise_iff_getElem.1 hx _ _ h2 h3 (by omega)
    (conv => whnf)
    refine draw_held tok mixed (fun w' => Ext w w') (ones [0, 1, 2, 3, 4, 5, 6, 7, 8, 9] (.alt 10 (ones [11] .done) .nil)) (by decide +kernel) (by decide +kernel) (hE.trans (Chg.drew _ _)) ?_
    (repeat ((conv => whnf); first | refine numP_i64 (by omega) ?_ | refine numP_u64 (by omega) ?_ | refine numP_u8 (by omega) ?_ | refine Exists.intro _ (And.intro ‹_› ?_) | refine Exists.intro _ (And.intro rfl ?_) | refine And.intro (by omega) (Exists.intro _ (And.intro rfl ?_)) | refine And.intro (by omega) ?_)); (conv => whnf)
    refine ⟨_, rfl, fun w' hw' => by rw [show ((i : Int) - 1).toNat = i - 1 by omega]; exact (h.ext hw').cnt hx1, ?_⟩
    (repeat ((conv => whnf); first | refine numP_i64 (by omega) ?_ | refine numP_u64 (by omega) ?_ | refine numP_u8 (by omega) ?_ | refine Exists.intro _ (And.intro ‹_› ?_) | refine Exists.intro _ (And.intro rfl ?_) | refine And.intro (by omega) (Exists.intro _ (And.intro rfl ?_)) | refine And.intro (by omega) ?_)); (conv => whnf)
    refine ⟨_, rfl, fun w' hw' => by rw [Int.toNat_natCast]; exact (h.ext hw').cnt hy1, ?_⟩
    (conv => whnf)
    refine ⟨?_, trivial⟩
    refine (compareC x y _).call ?_
    rintro _ w2 ⟨rfl, hG⟩
    have hE2 : Ext w w2 := (hE.trans (Chg.drew _ _)).trans hG.ext
    (conv => whnf)
    refine ⟨hE2, ?_⟩
    have hneg : ccmp x y < 0 := by
      have := ccmp_lt x y
      rw [hlt] at this
      simpa using this
    (conv => whnf)
    refine condP_no (by omega) ?_
    (repeat ((conv => whnf); first | refine numP_i64 (by omega) ?_ | refine numP_u64 (by omega) ?_ | refine numP_u8 (by omega) ?_ | refine Exists.intro _ (And.intro ‹_› ?_) | refine Exists.intro _ (And.intro rfl ?_) | refine And.intro (by omega) (Exists.intro _ (And.intro rfl ?_)) | refine And.intro (by omega) ?_)); (conv => whnf)
    refine ⟨⟨rfl, rfl⟩, ⟨i + 1, rfl, by omega, hE2⟩, by simp; omega⟩
  · (conv => whnf)
    exact ⟨rfl, hE⟩
theorem validL (g : Nat) (S : Nat → Prop) (A : Option Addr) (n c : Nat) (xs : List Cnt) (w : World) (h : SlR kCnt S w (.slice A n c) xs) (hl : xs.length ≤ 30000) (hx : xs.Pairwise fun a b => ltk (key a) (key b) = true)
    (hN : ∀ x ∈ xs, 1 ≤ x.2.2 ∧ x.2.2 ≤ 1000000) (hg1 : ∀ x ∈ xs, ∀ w', Ret Tryz.prog g #[.string (str x.1)] w' fun v w'' => v = .bool true ∧ w'' = w') (hg2 : ∀ x ∈ xs, ∀ w', Ret Tryz.prog g #[.string (str x.2.1)] w' fun v w'' => v = .bool true ∧ w'' = w') :
    Ret Tryz.prog 37 #[.slice A n c, .func (.func g) #[] #[]] w fun v w' => v = .bool true ∧ Ext w w' := by
  obtain ⟨rfl, hc, hm⟩ := h.len
  refine fn_ret tok Tryz.func37 (by kernel_rfl) rfl rfl ?_
  (conv => whnf)
  refine condP_no (by omega) ?_
  (conv => whnf)
  refine loop_rule tok [12] [0, 1, 10, 11] (fun vs w' => ∃ i : Nat, vs = [.int .i64 i] ∧ i ≤ xs.length ∧ Ext w w') (fun vs w => match vs with | [.int _ i] => xs.length - i.toNat | _ => 0) ?_
  (conv => whnf)
  refine ⟨⟨0, rfl, Nat.zero_le _, .refl _ _⟩, ?_⟩
  rintro _ w1 ⟨i, rfl, hi, hE⟩
  (conv => whnf)
  refine condP_dec (fun h1 => ?_) (fun h1 => ?_)
  · obtain ⟨ad, rfl⟩ := h.some_ (by omega)
    obtain ⟨x, hx1⟩ : ∃ x, xs[i]? = some x := ⟨_, List.getElem?_eq_getElem (by omega)⟩
    have hxm := List.mem_of_getElem? hx1
    obtain ⟨hN1, hN2⟩ := hN x hxm
    (repeat ((conv => whnf); first | refine numP_i64 (by omega) ?_ | refine numP_u64 (by omega) ?_ | refine numP_u8 (by omega) ?_ | refine Exists.intro _ (And.intro ‹_› ?_) | refine Exists.intro _ (And.intro rfl ?_) | refine And.intro (by omega) (Exists.intro _ (And.intro rfl ?_)) | refine And.intro (by omega) ?_)); (conv => whnf)
    refine ⟨_, rfl, by rw [Int.toNat_natCast]; exact (h.ext hE).cnt hx1, ?_⟩
    (conv => whnf)
    intro b6 w2 hw2
    obtain ⟨w3, hr3, hb3, hC3⟩ := store_blk (P := Tryz.prog) (vs := [.string (str x.1), .string (str x.2.1), .int .i64 x.2.2]) hw2.blk rfl (by intro v hv; simp at hv; rcases hv with rfl | rfl | rfl <;> rfl)
    (conv => whnf)
    refine ⟨rfl, w3, hr3, ?_⟩
    have hb6 : w1.heap.size ≤ b6 := by rw [hw2.hb]; exact Nat.le_refl _
    have hE3 : Ext w w3 := hE.trans ((hw2.chg No).then hC3 fun i hi hm => by omega)
    (conv => whnf)
    refine ⟨_, by rw [addr_add, cell_of_blk hb3]; rfl, ?_⟩
    (conv => whnf)
    refine condP_no (by show ¬ x.2.2 < 1; omega) ?_
    (conv => whnf)
    refine ⟨_, by rw [addr_add, cell_of_blk hb3]; rfl, ?_⟩
    (conv => whnf)
    refine condP_no (by show ¬ 1000000 < x.2.2; omega) ?_
    refine ⟨_, by rw [addr_add, cell_of_blk hb3]; rfl, ?_⟩
    (conv => whnf)
    refine (hg1 x hxm w3).call ?_
    rintro _ w3 ⟨rfl, rfl⟩
    (conv => whnf)
    refine ⟨_, by rw [addr_add, cell_of_blk hb3]; rfl, ?_⟩
    (conv => whnf)
    refine (hg2 x hxm w3).call ?_
    rintro _ w3 ⟨rfl, rfl⟩
    (repeat ((conv => whnf); first | refine numP_i64 (by omega) ?_ | refine numP_u64 (by omega) ?_ | refine numP_u8 (by omega) ?_ | refine Exists.intro _ (And.intro ‹_› ?_) | refine Exists.intro _ (And.intro rfl ?_) | refine And.intro (by omega) (Exists.intro _ (And.intro rfl ?_)) | refine And.intro (by omega) ?_)); (conv => whnf)
    refine ⟨⟨rfl, rfl⟩, ⟨i + 1, rfl, by omega, hE3⟩, by simp; omega⟩
  · (conv => whnf)
    refine (incC S A _ c xs w1 (h.ext hE) hx).call ?_
    rintro _ w2 ⟨rfl, hE2⟩
    (conv => whnf)
    exact ⟨rfl, hE.trans hE2⟩
/-- Counts as they are made. -/
structure Good (ys : List Cnt) : Prop where
  len : ys.length ≤ 1000
  lt : ys.Pairwise fun a b => ltk (key a) (key b) = true
  n : ∀ x ∈ ys, 1 ≤ x.2.2 ∧ x.2.2 ≤ 1000000
theorem valid (S : Nat → Prop) (A1 A2 : Option Addr) (n1 c1 n2 c2 : Nat) (ys1 ys2 : List Cnt) (w : World) (h1 : SlR kCnt S w (.slice A1 n1 c1) ys1) (h2 : SlR kCnt S w (.slice A2 n2 c2) ys2) (g1 : Good ys1) (g2 : Good ys2)
    (hp1 : ∀ x ∈ ys1, (x.1 = [] ∨ isNm x.1 = true) ∧ (x.2.1 = [] ∨ isNm x.2.1 = true)) (hp2 : ∀ x ∈ ys2, isNm x.1 = true ∧ isNm x.2.1 = true) :
    Ret Tryz.prog 17 #[.agg #[.slice A1 n1 c1, .slice A2 n2 c2]] w fun v w' => v = .bool true ∧ Ext w w' := by
  have hnl : ∀ s : List UInt8, s = [] ∨ isNm s = true → s.length ≤ 40 := fun s hs => by
    rcases hs with rfl | hs
    · simp
    · unfold isNm at hs; simp at hs; exact hs.2
  refine fn_ret tok Tryz.func17 (by kernel_rfl) rfl rfl ?_
  (conv => whnf)
  intro b1 w1 hw1
  have hE1 : Ext w w1 := hw1.chg _
  (conv => whnf)
  refine ⟨_, by rw [addr_add, cell_of_blk hw1.blk]; rfl, ?_⟩
  (conv => whnf)
  have hpart : ∀ s : List UInt8, s = [] ∨ isNm s = true → ∀ w', Ret Tryz.prog 38 #[.string (str s)] w' fun v w'' => v = .bool true ∧ w'' = w' := fun s hs w' => (valid1 s w' (by have := hnl s hs; omega)).mono fun v w'' h => ⟨by
    rw [h.1]
    rcases hs with rfl | hs
    · rfl
    · rw [hs, Bool.or_true], h.2⟩
  refine (validL 38 S A1 n1 c1 ys1 w1 (h1.ext hE1) (by have := g1.len; omega) g1.lt g1.n (fun x hx => hpart _ (hp1 x hx).1) (fun x hx => hpart _ (hp1 x hx).2)).call ?_
  rintro _ w2 ⟨rfl, hE2⟩
  have hb2 := hE2.blk hw1.blk (fun h => h)
  (conv => whnf)
  refine ⟨_, by rw [addr_add, cell_of_blk hb2]; rfl, ?_⟩
  (conv => whnf)
  have hpart2 : ∀ s : List UInt8, isNm s = true → ∀ w', Ret Tryz.prog 15 #[.string (str s)] w' fun v w'' => v = .bool true ∧ w'' = w' := fun s hs w' => (isName s w' (by have := hnl s (.inr hs); omega)).mono fun v w'' h => ⟨by rw [h.1, hs], h.2⟩
  refine (validL 15 S A2 n2 c2 ys2 w2 (h2.ext (hE1.trans hE2)) (by have := g2.len; omega) g2.lt g2.n (fun x hx => hpart2 _ (hp2 x hx).1) (fun x hx => hpart2 _ (hp2 x hx).2)).call ?_
  rintro _ w3 ⟨rfl, hE3⟩
  (conv => whnf)
  exact ⟨rfl, (hE1.trans hE2).trans hE3⟩
end Go.Proofs.YtfeegacmmfgjfaaGreatDoorX

/-!  Package counts: Merge. -/
set_option linter.unusedVariables false
set_option maxRecDepth 10000
namespace Go.Proofs.YtfeegacmmfgjfaaGreatDoorX
open Go Go.RowKit Go.Proofs Go.Proofs.YtfeegacmmfgjfaaGreatDoorM
theorem merge_ (S : Nat → Prop) (A1 A2 : Option Addr) (n1 c1 n2 c2 : Nat) (a b : List Cnt) (w : World) (h1 : SlR kCnt S w (.slice A1 n1 c1) a) (h2 : SlR kCnt S w (.slice A2 n2 c2) b)
    (hl : (a ++ b).length ≤ 1000) (hN : ∀ x ∈ a ++ b, 1 ≤ x.2.2 ∧ x.2.2 ≤ 100) :
    Ret Tryz.prog 18 #[.slice A1 n1 c1, .slice A2 n2 c2] w fun v w' => ∃ v1 ys, v = .tuple #[v1, .bool true] ∧ IsW (a ++ b) ys ∧ Fresh kCnt 60 w w' v1 ys := by
  refine fn_ret tok Tryz.func18 (by kernel_rfl) rfl rfl ?_
  (conv => whnf)
  intro b6 w1 hw1
  (conv => whnf)
  intro b12 w2 hw2
  have hE1 : Ext w w1 := hw1.chg _
  have hE2 : Ext w w2 := hE1.trans (hw2.chg _)
  have hsl : SlR (kSl kCnt) (fun i => S i ∨ i = b12) w2 (.slice (some ⟨b12, 0, none⟩) 2 2) [a, b] := by
    refine ⟨some ⟨b12, 0, none⟩, 2, rfl, by simp, by omega, fun j x hj => ⟨_, [if j = 0 then .slice A1 n1 c1 else .slice A2 n2 c2], rfl, .inr rfl, ?_, ?_⟩⟩
    · refine ⟨_, rfl, ?_⟩
      rcases j with _ | _ | j
      · simp at hj; subst hj; exact (h1.ext hE2).mono fun i hi _ => .inl hi
      · simp at hj; subst hj; exact (h2.ext hE2).mono fun i hi _ => .inl hi
      · simp at hj
    · refine cellsAt_one ?_
      rw [show kSl kCnt = kSl kCnt from rfl, addr_add, cell_of_blk hw2.blk]
      rcases j with _ | _ | j
      · rfl
      · rfl
      · simp at hj
  have hflat : [a, b].flatten = a ++ b := by simp
  (conv => whnf)
  refine (concatC _ _ _ _ [a, b] w2 hsl (by rw [hflat]; omega) (by simp)).call ?_
  intro vc w3 hF
  rw [hflat] at hF
  obtain ⟨A, c, rfl, hc1, hc2⟩ := hF.shape
  have hE3 : Ext w w3 := hE2.trans hF.ext
  have hn6 := hw1.hb
  have hs1 := hw1.size
  have hs2 := hw2.size
  have hm6 : w3.heap[b6]? = some (mapO eSS (ei (tally [] []))) := hF.ext.blk ((hw2.chg No).blk hw1.blk (fun h => h)) (fun h => h)
  have h3 : SlR kCnt (fun i => w2.heap.size ≤ i) w3 _ (a ++ b) := hF.read
  have h3s := hF.ext.size
  clear hw1 hw2 hsl
  generalize a ++ b = xs at *
  (conv => whnf)
  refine loop_rule tok [15] [6, 13, 14] (fun vs w' => ∃ i : Nat, vs = [.int .i64 i] ∧ i ≤ xs.length ∧ Chg (fun j => j = b6) w3 w' ∧ w'.heap[b6]? = some (mapO eSS (ei (tally [] (xs.take i))))) (fun vs w => match vs with | [.int _ i] => xs.length - i.toNat | _ => 0) ?_
  (conv => whnf)
  refine ⟨⟨0, rfl, Nat.zero_le _, .refl _ _, hm6⟩, ?_⟩
  clear hm6
  rintro _ w4 ⟨i, rfl, hi, hC4, hm6⟩
  have h4 := h3.chg hC4 (fun b hb e => by have : w2.heap.size ≤ b := hb; omega)
  (conv => whnf)
  refine condP_dec (fun h1 => ?_) (fun h1 => ?_)
  · obtain ⟨ad, rfl⟩ := h4.some_ (by omega)
    obtain ⟨x, hx1⟩ : ∃ x, xs[i]? = some x := ⟨_, List.getElem?_eq_getElem (by omega)⟩
    have hxm := List.mem_of_getElem? hx1
    obtain ⟨hN1, hN2⟩ := hN x hxm
    (repeat ((conv => whnf); first | refine numP_i64 (by omega) ?_ | refine numP_u64 (by omega) ?_ | refine numP_u8 (by omega) ?_ | refine Exists.intro _ (And.intro ‹_› ?_) | refine Exists.intro _ (And.intro rfl ?_) | refine And.intro (by omega) (Exists.intro _ (And.intro rfl ?_)) | refine And.intro (by omega) ?_)); (conv => whnf)
    refine ⟨_, rfl, by rw [Int.toNat_natCast]; exact h4.cnt hx1, ?_⟩
    (conv => whnf)
    intro b8 w5 hw5
    obtain ⟨w6, hr6, hb6, hC6⟩ := store_blk (P := Tryz.prog) (vs := [.string (str x.1), .string (str x.2.1), .int .i64 x.2.2]) hw5.blk rfl (by intro v hv; simp at hv; rcases hv with rfl | rfl | rfl <;> rfl)
    (conv => whnf)
    refine ⟨rfl, w6, hr6, ?_⟩
    have hb8 : w4.heap.size ≤ b8 := by rw [hw5.hb]; exact Nat.le_refl _
    have hE46 : Ext w4 w6 := (hw5.chg No).then hC6 fun i hi hm => by omega
    have hC46 : Chg (fun j => j = b6) w3 w6 := hC4.ext hE46
    have hm6 := hE46.blk hm6 (fun h => h)
    have hsz4 := hC4.size
    have hn86 : ¬ b8 = b6 := by omega
    have hb1 := tally_le (cs := xs.take i) (M := 100) (fun c hc => by have := hN c (List.mem_of_mem_take hc); omega) (x.1, x.2.1)
    have hlt := List.length_take_le i xs
    have htk : xs.take (i + 1) = xs.take i ++ [x] := by rw [List.take_add_one, hx1]; rfl
    have hb2 := tally_le (cs := xs.take (i + 1)) (M := 100) (fun c hc => by have := hN c (List.mem_of_mem_take hc); omega) (x.1, x.2.1)
    have hlt2 := List.length_take_le (i + 1) xs
    (conv => whnf)
    refine draw_meet [6, 8, 13, 14, 15] (fun vs w' => vs = [.map (some b6), .pointer (some ⟨b8, 0, none⟩), .slice (some ad) xs.length c, .int .i64 (xs.length : Nat), .int .i64 i] ∧
      w'.heap[b6]? = some (mapO eSS (ei (bump (tally [] (xs.take i)) (x.1, x.2.1) x.2.2))) ∧ Chg (fun a => a = b6) w6.drew w' ∧ w'.heap.size = w6.heap.size) ?_ ?_
    · refine draw_held tok mixed (fun w' => w'.heap[b8]? = some (.cells #[.string (str x.1), .string (str x.2.1), .int .i64 x.2.2] 60 (0, 0)))
        (ones [0, 1, 2, 3, 4, 5, 7, 8] (.alt 6 (ones [9] (.alt 10 (ones [11] (.alt 12 .done .nil)) .nil)) (.alt 10 (ones [11] (.alt 6 (ones [9] (.alt 12 .done .nil)) .nil)) .nil))) (by decide +kernel) (by decide +kernel) hb6 ?_
      (conv => whnf)
      refine ⟨_, fun w' h => (by rw [addr_add, cell_of_blk h]; rfl), ?_⟩
      (conv => whnf)
      refine ⟨_, fun w' h => (by rw [addr_add, cell_of_blk h]; rfl), ?_⟩
      (conv => whnf)
      refine ⟨_, fun w' h => (by rw [addr_add, cell_of_blk h]; rfl), ?_⟩
      (conv => whnf)
      have hmB : w6.drew.heap[b6]? = _ := hm6
      have hS0 : w6.drew.heap[b8]? = _ := hb6
      have hneB : ¬ b8 = b6 := hn86
      let mB := b6
      let kB : K := (x.1, x.2.1)
      have hbB : 0 ≤ getI (tally [] (xs.take i)) kB + x.2.2 ∧ getI (tally [] (xs.take i)) kB + x.2.2 ≤ 200000 := ⟨Int.add_nonneg hb1.1 (by omega), Int.le_trans (Int.add_le_add_right hb1.2 _) (by omega)⟩
      refine ⟨?_, ?_, trivial⟩
      · refine sem_look (k := kB) rfl rfl hmB ?_
        (conv => whnf)
        refine ⟨hS0, ?_⟩
        (repeat ((conv => whnf); first | refine numP_i64 (by omega) ?_ | refine numP_u64 (by omega) ?_ | refine numP_u8 (by omega) ?_ | refine Exists.intro _ (And.intro ‹_› ?_) | refine Exists.intro _ (And.intro rfl ?_) | refine And.intro (by omega) (Exists.intro _ (And.intro rfl ?_)) | refine And.intro (by omega) ?_)); (conv => whnf)
        refine ⟨?_, trivial⟩
        refine sem_room (k := kB) rfl rfl hmB fun wb hwb => ?_
        (conv => whnf)
        refine ⟨(hwb.chg (fun i => i = mB) rfl).blk hS0 hneB, ?_⟩
        (conv => whnf)
        refine ⟨?_, trivial⟩
        refine sem_put (k := kB) rfl rfl rfl (hwb.blk hmB) fun wc hwc => ?_
        have hCC := (hwb.chg (fun i => i = mB) rfl).trans (hwc.chg (fun i => i = mB) rfl)
        (conv => whnf)
        refine ⟨hCC.blk hS0 hneB, ?_⟩
        (conv => whnf)
        exact ⟨rfl, rfl, hwc.blk (hwb.blk hmB), hCC, hwc.size.trans hwb.size⟩
      · refine sem_room (k := kB) rfl rfl hmB fun wb hwb => ?_
        (conv => whnf)
        refine ⟨(hwb.chg (fun i => i = mB) rfl).blk hS0 hneB, ?_⟩
        (conv => whnf)
        refine ⟨?_, trivial⟩
        refine sem_look2 (k := kB) rfl rfl (hwb.blk hmB) ?_
        (conv => whnf)
        refine ⟨(hwb.chg (fun i => i = mB) rfl).blk hS0 hneB, ?_⟩
        (repeat ((conv => whnf); first | refine numP_i64 (by omega) ?_ | refine numP_u64 (by omega) ?_ | refine numP_u8 (by omega) ?_ | refine Exists.intro _ (And.intro ‹_› ?_) | refine Exists.intro _ (And.intro rfl ?_) | refine And.intro (by omega) (Exists.intro _ (And.intro rfl ?_)) | refine And.intro (by omega) ?_)); (conv => whnf)
        refine ⟨?_, trivial⟩
        refine sem_put (k := kB) rfl rfl rfl (hwb.blk hmB) fun wc hwc => ?_
        have hCC := (hwb.chg (fun i => i = mB) rfl).trans (hwc.chg (fun i => i = mB) rfl)
        (conv => whnf)
        refine ⟨hCC.blk hS0 hneB, ?_⟩
        (conv => whnf)
        exact ⟨rfl, rfl, hwc.blk (hwb.blk hmB), hCC, hwc.size.trans hwb.size⟩
    rintro _ w7 ⟨rfl, hm7, hC7, hsz7⟩
    have hC67 : Chg (fun a => a = b6) w6 w7 := (Chg.drew _ _).trans hC7
    have hb7 := hC67.blk hb6 hn86
    have hm7 : w7.heap[b6]? = some (mapO eSS (ei (tally [] (xs.take (i + 1))))) := by rw [htk, tally_snoc]; exact hm7
    (conv => whnf)
    refine ⟨_, by rw [addr_add, cell_of_blk hb7]; rfl, ?_⟩
    (conv => whnf)
    refine ⟨_, by rw [addr_add, cell_of_blk hb7]; rfl, ?_⟩
    (conv => whnf)
    refine sem_look (k := (x.1, x.2.1)) rfl rfl hm7 ?_
    (conv => whnf)
    refine condP_no (by omega) ?_
    (repeat ((conv => whnf); first | refine numP_i64 (by omega) ?_ | refine numP_u64 (by omega) ?_ | refine numP_u8 (by omega) ?_ | refine Exists.intro _ (And.intro ‹_› ?_) | refine Exists.intro _ (And.intro rfl ?_) | refine And.intro (by omega) (Exists.intro _ (And.intro rfl ?_)) | refine And.intro (by omega) ?_)); (conv => whnf)
    refine ⟨⟨rfl, rfl⟩, ⟨i + 1, rfl, by omega, hC46.then hC67 fun i hi hm => hm, hm7⟩, by simp; omega⟩
  · obtain rfl : i = xs.length := by omega
    rw [List.take_length] at hm6
    have hln := tally_len [] xs
    have eln : (ei (tally [] xs)).length = (tally [] xs).length := by simp [ei]
    simp only [List.length_nil, Nat.zero_add] at hln
    (conv => whnf)
    refine (sorted_ b6 _ w4 hm6 (by omega)).call ?_
    rintro v1 w5 ⟨ys1, hp1, hso1, hF1⟩
    (conv => whnf)
    refine sem_len_map tok rfl rfl (hF1.ext.blk hm6 (fun h => h)) ?_
    (conv => whnf)
    have hE4 : Ext w w4 := hE3.then hC4 fun i hi hm => by omega
    refine ⟨v1, ys1, ?_, .of hp1 hso1, hF1.back hE4⟩
    rw [dec_true (by omega)]
end Go.Proofs.YtfeegacmmfgjfaaGreatDoorX

/-!  Package counts: Merge. -/
set_option linter.unusedVariables false
set_option maxRecDepth 10000
namespace Go.Proofs.YtfeegacmmfgjfaaGreatDoorX
open Go Go.RowKit Go.Proofs Go.Proofs.YtfeegacmmfgjfaaGreatDoorM
/-- What Count makes of a few sentences. -/
structure Small (y1 y2 : List Cnt) : Prop where
  l1 : y1.length ≤ 100
  l2 : y2.length ≤ 100
  s1 : y1.Pairwise fun a b => ltk (key a) (key b) = true
  s2 : y2.Pairwise fun a b => ltk (key a) (key b) = true
  n1 : ∀ x ∈ y1, 1 ≤ x.2.2 ∧ x.2.2 ≤ 100
  n2 : ∀ x ∈ y2, 1 ≤ x.2.2 ∧ x.2.2 ≤ 100
  p1 : ∀ x ∈ y1, (x.1 = [] ∨ isNm x.1 = true) ∧ (x.2.1 = [] ∨ isNm x.2.1 = true)
  p2 : ∀ x ∈ y2, isNm x.1 = true ∧ isNm x.2.1 = true
theorem Small.g1 {y1 y2 : List Cnt} (h : Small y1 y2) : Good y1 := ⟨by have := h.l1; omega, h.s1, fun x hx => by have := h.n1 x hx; omega⟩
theorem Small.g2 {y1 y2 : List Cnt} (h : Small y1 y2) : Good y2 := ⟨by have := h.l2; omega, h.s2, fun x hx => by have := h.n2 x hx; omega⟩
theorem merge (S : Nat → Prop) (A1 A2 A3 A4 : Option Addr) (n1 c1 n2 c2 n3 c3 n4 c4 : Nat) (a1 a2 b1 b2 : List Cnt) (w : World) (h1 : SlR kCnt S w (.slice A1 n1 c1) a1) (h2 : SlR kCnt S w (.slice A2 n2 c2) a2) (h3 : SlR kCnt S w (.slice A3 n3 c3) b1) (h4 : SlR kCnt S w (.slice A4 n4 c4) b2)
    (ga : Small a1 a2) (gb : Small b1 b2) :
    Ret Tryz.prog 6 #[.agg #[.slice A1 n1 c1, .slice A2 n2 c2], .agg #[.slice A3 n3 c3, .slice A4 n4 c4]] w fun v w' => ∃ v1 v2 z1 z2, v = .tuple #[.agg #[v1, v2], .int .i64 0] ∧ IsW (a1 ++ b1) z1 ∧ IsW (a2 ++ b2) z2 ∧ Fresh kCnt 60 w w' v1 z1 ∧ Fresh kCnt 60 w w' v2 z2 := by
  refine fn_ret tok Tryz.func6 (by kernel_rfl) rfl rfl ?_
  (conv => whnf)
  intro b5 w1 hw1
  (conv => whnf)
  intro b6 w2 hw2
  (conv => whnf)
  intro b7 w3 hw3
  have hE3 : Ext w w3 := ((hw1.chg No).trans (hw2.chg No)).trans (hw3.chg No)
  have hb5 := (hw3.chg No).blk ((hw2.chg No).blk hw1.blk (fun h => h)) (fun h => h)
  have hb6 := (hw3.chg No).blk hw2.blk (fun h => h)
  have hb7 := hw3.blk
  have hn5 := hw1.hb
  have hn6 := hw2.hb
  have hn7 := hw3.hb
  have hs1 := hw1.size
  have hs2 := hw2.size
  have hs3 := hw3.size
  clear hw1 hw2 hw3
  (conv => whnf)
  refine ⟨_, rfl, cellsAt_blk hb5, ?_⟩
  (conv => whnf)
  refine (valid S A1 A2 n1 c1 n2 c2 a1 a2 w3 (h1.ext hE3) (h2.ext hE3) ga.g1 ga.g2 ga.p1 ga.p2).call ?_
  rintro _ w4 ⟨rfl, hE4⟩
  have hE04 : Ext w w4 := hE3.trans hE4
  (conv => whnf)
  refine ⟨_, rfl, cellsAt_blk (hE4.blk hb6 (fun h => h)), ?_⟩
  (conv => whnf)
  refine (valid S A3 A4 n3 c3 n4 c4 b1 b2 w4 (h3.ext hE04) (h4.ext hE04) gb.g1 gb.g2 gb.p1 gb.p2).call ?_
  rintro _ w5 ⟨rfl, hE5⟩
  have hE05 : Ext w w5 := hE04.trans hE5
  have hE35 : Ext w3 w5 := hE4.trans hE5
  have hb5 := hE35.blk hb5 (fun h => h)
  have hb6 := hE35.blk hb6 (fun h => h)
  have hb7 := hE35.blk hb7 (fun h => h)
  (conv => whnf)
  refine ⟨_, by rw [addr_add, cell_of_blk hb5]; rfl, ?_⟩
  (conv => whnf)
  refine ⟨_, by rw [addr_add, cell_of_blk hb6]; rfl, ?_⟩
  (conv => whnf)
  refine (merge_ S A1 A3 n1 c1 n3 c3 a1 b1 w5 (h1.ext hE05) (h3.ext hE05) (by have := ga.l1; have := gb.l1; simp; omega) (fun x hx => (List.mem_append.1 hx).elim (ga.n1 x) (gb.n1 x))).call ?_
  rintro _ w6 ⟨v1, z1, rfl, hW1, hF1⟩
  have hb5 := hF1.ext.blk hb5 (fun h => h)
  have hb6 := hF1.ext.blk hb6 (fun h => h)
  have hE06 := hE05.trans hF1.ext
  (conv => whnf)
  refine ⟨_, by rw [addr_add, cell_of_blk hb5]; rfl, ?_⟩
  (conv => whnf)
  refine ⟨_, by rw [addr_add, cell_of_blk hb6]; rfl, ?_⟩
  (conv => whnf)
  refine (merge_ S A2 A4 n2 c2 n4 c4 a2 b2 w6 (h2.ext hE06) (h4.ext hE06) (by have := ga.l2; have := gb.l2; simp; omega) (fun x hx => (List.mem_append.1 hx).elim (ga.n2 x) (gb.n2 x))).call ?_
  rintro _ w7 ⟨v2, z2, rfl, hW2, hF2⟩
  have hE07 := hE06.trans hF2.ext
  obtain ⟨B1, d1, rfl, _⟩ := hF1.shape
  obtain ⟨B2, d2, rfl, _⟩ := hF2.shape
  have hb7 := (hF1.ext.trans hF2.ext).blk hb7 (fun h => h)
  obtain ⟨w8, hr8, hb8, hC8⟩ := store_blk (P := Tryz.prog) (vs := [.slice B1 z1.length d1, .slice B2 z2.length d2]) hb7 rfl (by intro v hv; simp at hv; rcases hv with rfl | rfl <;> rfl)
  (conv => whnf)
  refine ⟨rfl, w8, hr8, ?_⟩
  (conv => whnf)
  refine ⟨_, rfl, cellsAt_blk hb8, ?_⟩
  have hsz := hE35.size
  refine ⟨_, _, z1, z2, rfl, hW1, hW2, ?_, ?_⟩
  · exact kCnt_flat.stay ((hF1.up hF2.ext).back hE05) hC8 (fun b hb => by omega) fun b hb e => by
      have := (hF1.newB hb).1
      omega
  · exact kCnt_flat.stay (hF2.back hE06) hC8 (fun b hb => by omega) fun b hb e => by
      have := (hF2.newB hb).1
      have := hF1.ext.size
      omega
end Go.Proofs.YtfeegacmmfgjfaaGreatDoorX
