/- What the claims of this group lean on: CzR0. No condition. -/
import Derived.Test.YtdldbkpdecbgnaaGreatDoorKY4
set_option maxRecDepth 100000
set_option maxHeartbeats 4000000
namespace Cz
open Go Go.RowKit Go.Proofs
namespace I
def qsp:Nat->List Nat:=kk [[0],[41,42],[43],([1000700,1]++rg 44 6),(rg 50 7),(rg 57 7),([13,15]++rg 64 7),(rg 71 5),(rg 76 6),([19]++rg 82 6),(rg 88 7),(rg 95 5),(rg 100 5),([31]++rg 105 6),(rg 111 5),(rg 116 5),(rg 121 6),([4,8,12,16,18,20,21,22,26,28,30,32,34,36,38]++rg 127 69),[],([6,7,10,11,14,27]++rg 197 38),([17,23,24,25]++rg 235 23),([1000701,2,3,5,9,29,33,35,37,39,40]++rg 258 68)]
def qnn:Spl:=(.node 0 6
 (.node 2 6
 (.leaf ([(1,[]),(0,[1])]++og 2 7))
 (.leaf ([(1,[]),(0,[1]),(6,[1])]++og 2 4++[(7,[]),(8,[])])))
 (.leaf ([(1,[]),(6,[1]),(0,[1])]++og 2 4++[(7,[]),(8,[])])))
def qnz:List (Nat×List Nat):=(og 0 58++[(59,[]),(58,[59])]++og 60 9)
def qzacd:IR:=
 (sr [o 0 (.mv (.c .ff))] [0] (sr [o 41 (.buildS 1 3 [(.i .u8 (.l 0))] [(0,(.c (.i .u8 (.l 7)))),(1,(.c (.i .u8 (.l 8)))),(2,(.c (.i .u8 (.l 9))))]),o 42 (.build z2 [(0,1,(z 1)),(1,1,(.c (.i .u8 (.l 1)))),(2,1,(z 100)),(3,1,(z 50)),(5,1,(.c .tt)),(6,1,(.c .tt)),(7,1,(t 41)),(8,1,(.c (.i .u8 (.l 3)))),(10,1,(z (-1)))]),o 1 (.alloc z2),u (.store 11 (t 1) (t 42))] [41,42] (sr [o 43 (.build z3 [(0,1,(.c (.i .u8 (.l 3))))]),o 2 (.alloc z3),u (.store 7 (t 2) (t 43))] [43] (.seq (.draw [o 45 (f 23 []),o 46 (.load true 11 (t 1)),o 47 (f 22 [(t 45),(t 46)]),m 44 47,ex 48 44 0,ex 49 44 1,o 3 (.alloc z0),u (.store 18 (t 3) (t 48)),m 4 49] [[],[],[0,1,0],[2],[3],[3],[],[6,4,2,0,1,2,3,4,6],([5,7]++rg 0 8)] ([1000700,1]++rg 44 6)) (sr [o 51 (.load true 18 (t 3)),o 52 (f 9 [(t 51),(z 16384),(z 2)]),m 50 52,ex 53 50 0,ex 54 50 1,ex 55 50 2,ex 56 50 3,o 5 (.alloc z0),o 7 (.alloc z1),u (.store 18 (t 5) (t 53)),m 6 54,u (.store 4 (t 7) (t 55)),m 8 56] (rg 50 7) (sr [o 58 (.load true 18 (t 5)),o 59 (f 9 [(t 58),(z 16384),(z 2)]),m 57 59,ex 60 57 0,ex 61 57 1,ex 62 57 2,ex 63 57 3,o 9 (.alloc z0),o 11 (.alloc z1),u (.store 18 (t 9) (t 60)),m 10 61,u (.store 4 (t 11) (t 62)),m 12 63] (rg 57 7) (sr [o 65 (.load true 18 (t 9)),o 66 (f 9 [(t 65),(z 16384),(z 2)]),m 64 66,ex 67 64 0,ex 68 64 1,ex 69 64 2,ex 70 64 3,o 13 (.alloc z0),o 15 (.alloc z1),u (.store 18 (t 13) (t 67)),m 14 68,u (.store 4 (t 15) (t 69)),m 16 70] ([13,15]++rg 64 7) (sr [o 72 (.load true 18 (t 9)),o 73 (f 11 [(t 72),(z 100)]),m 71 73,ex 74 71 0,ex 75 71 1,o 17 (.alloc z0),u (.store 18 (t 17) (t 74)),m 18 75] (rg 71 5) (sr [o 77 (.load true 18 (t 17)),o 78 (.load true 7 (t 2)),o 79 (f 12 [(t 77),(t 78)]),m 76 79,ex 80 76 0,ex 81 76 1,o 19 (.alloc z0),u (.store 18 (t 19) (t 80)),m 20 81] (rg 76 6) (sr [o 83 (.load true 18 (t 19)),o 84 (.load true 7 (t 2)),o 85 (f 12 [(t 83),(t 84)]),m 82 85,ex 86 82 0,ex 87 82 1,o 21 (.alloc z0),u (.store 18 (t 21) (t 86)),m 22 87] ([19]++rg 82 6) (sr [o 89 (.load true 18 (t 21)),o 90 (f 9 [(t 89),(z 16384),(z 2)]),m 88 90,ex 91 88 0,ex 92 88 1,ex 93 88 2,ex 94 88 3,o 23 (.alloc z0),o 25 (.alloc z1),u (.store 18 (t 23) (t 91)),m 24 92,u (.store 4 (t 25) (t 93)),m 26 94] (rg 88 7) (sr [o 96 (.load true 18 (t 9)),o 97 (f 24 [(t 96),(z 1)]),m 95 97,ex 98 95 0,ex 99 95 1,o 27 (.alloc z2),u (.store 11 (t 27) (t 98)),m 28 99] (rg 95 5) (sr [o 101 (.load true 18 (t 9)),o 102 (f 25 [(t 101),(z 1),(.c (.i .u32 (.l 2)))]),m 100 102,ex 103 100 0,ex 104 100 1,o 29 (.alloc z0),u (.store 18 (t 29) (t 103)),m 30 104] (rg 100 5) (sr [o 106 (.load true 18 (t 29)),o 107 (.load true 7 (t 2)),o 108 (f 12 [(t 106),(t 107)]),m 105 108,ex 109 105 0,ex 110 105 1,o 31 (.alloc z0),u (.store 18 (t 31) (t 109)),m 32 110] ([31]++rg 105 6) (sr [o 112 (.load true 18 (t 9)),o 113 (f 26 [(t 112),(z 3)]),m 111 113,ex 114 111 0,ex 115 111 1,o 33 (.alloc z0),u (.store 18 (t 33) (t 114)),m 34 115] (rg 111 5) (sr [o 117 (.load true 18 (t 9)),o 118 (f 27 [(t 117),(z 3)]),m 116 118,ex 119 116 0,ex 120 116 1,o
 35 (.alloc z0),u (.store 18 (t 35) (t 119)),m 36 120] (rg 116 5) (sr [o 122 (.load true 18 (t 9)),o 123 (.build z2 [(0,1,(z 1)),(1,1,(.c (.i .u8 (.l 6)))),(10,1,(z (-1)))]),o 124 (f 28 [(t 122),(t 123)]),m 121 124,ex 125 121 0,ex 126 121 1,o 37 (.alloc z0),u (.store 18 (t 37) (t 125)),m 38 126] (rg 121 6) (.seq (sr [fd 127 0 23,l1 128 127,o 129 (.len false (t 128)),o 130 (.bin .ne (t 129) (z 0)),m 131 130,fq 132 0 21 131 false,lq 133 132 131 false,q 134 (.len false (t 133)) 131 false,q 135 (.bin .ne (t 134) (z 1)) 131 false,o 136 (.pick (t 131) (.c .tt) (t 135)),m 137 136,fq 138 7 35 137 false,lq 139 138 137 false,q 140 (.len false (t 139)) 137 false,q 141 (.bin .ne (t 140) (z 1)) 137 false,o 142 (.pick (t 137) (.c .tt) (t 141)),m 143 142,mq 144 4 143 false,q 145 (.not (t 144)) 143 false,o 146 (.pick (t 143) (.c .tt) (t 145)),m 147 146,mq 148 8 147 false,q 149 (.not (t 148)) 147 false,o 150 (.pick (t 147) (.c .tt) (t 149)),m 151 150,mq 152 12 151 false,q 153 (.not (t 152)) 151 false,o 154 (.pick (t 151) (.c .tt) (t 153)),m 155 154,mq 156 16 155 false,o 157 (.pick (t 155) (.c .tt) (t 156)),m 158 157,mq 159 18 158 false,q 160 (.not (t 159)) 158 false,o 161 (.pick (t 158) (.c .tt) (t 160)),m 162 161,mq 163 20 162 false,q 164 (.not (t 163)) 162 false,o 165 (.pick (t 162) (.c .tt) (t 164)),m 166 165,mq 167 22 166 false,q 168 (.not (t 167)) 166 false,o 169 (.pick (t 166) (.c .tt) (t 168)),m 170 169,mq 171 26 170 false,q 172 (.not (t 171)) 170 false,o 173 (.pick (t 170) (.c .tt) (t 172)),m 174 173,mq 175 28 174 false,q 176 (.not (t 175)) 174 false,o 177 (.pick (t 174) (.c .tt) (t 176)),m 178 177,mq 179 30 178 false,q 180 (.not (t 179)) 178 false,o 181 (.pick (t 178) (.c .tt) (t 180)),m 182 181,mq 183 32 182 false,o 184 (.pick (t 182) (.c .tt) (t 183)),m 185 184,mq 186 34 185 false,q 187 (.not (t 186)) 185 false,o 188 (.pick (t 185) (.c .tt) (t 187)),m 189 188,mq 190 36 189 false,q 191 (.not (t 190)) 189 false,o 192 (.pick (t 189) (.c .tt) (t 191)),m 193 192,mq 194 38 193 false,q 195 (.not (t 194)) 193 false,o 196 (.pick (t 193) (.c .tt) (t 195))] ([4,8,12,16,18,20,21,22,26,28,30,32,34,36,38]++rg 127 69) (.cond (t 196) (sr [o 0 (.mv (.c .ff))] [] .ret) .skip)) (sr [m 197 6,o 198 (.cvBS (t 197)),o 199 (.bin .eq (t 198) (.c (.s [0,0,2,0,0,0,0,0,1,7,8]))),m 200 199,q 201 (.load true 4 (t 7)) 200 true,q 202 (.build z1 [(0,1,(.c (.i .u8 (.l 0)))),(2,1,(z 1)),(3,1,(z 2))]) 200 true,q 203 (.eqA ⟨true,[.ki,.ki,.ki,.ki]⟩ false (t 201) (t 202)) 200 true,o 204 (.pick (t 200) (t 203) (.c .ff)),m 205 204,mq 206 10 205 true,q 207 (.cvBS (t 206)) 205 true,q 208 (.bin .eq (t 207) (.c (.s [0,0,1,0,1,0,0,0,1,9]))) 205 true,o 209 (.pick (t 205) (t 208) (.c .ff)),m 210 209,q 211 (.load true 4 (t 11)) 210 true,q 212 (.build z1 [(0,1,(.c (.i .u8 (.l 0)))),(1,1,(.c (.i .u8 (.l 1)))),(2,1,(z 1)),(3,1,(z 1))]) 210 true,q 213 (.eqA ⟨true,[.ki,.ki,.ki,.ki]⟩ false (t 211) (t 212)) 210 true,o 214 (.pick (t 210) (t 213) (.c .ff)),m 215 214,mq 216 14 215 true,q 217 (.len false (t 216))
 215 true,q 218 (.bin .eq (t 217) (z 0)) 215 true,o 219 (.pick (t 215) (t 218) (.c .ff)),m 220 219,fq 221 1 27 220 true,lq 222 221 220 true,q 223 (.bin .eq (t 222) (.c (.i .u8 (.l 3)))) 220 true,o 224 (.pick (t 220) (t 223) (.c .ff)),m 225 224,fq 226 10 27 225 true,lq 227 226 225 true,q 228 (.bin .eq (t 227) (z (-1))) 225 true,o 229 (.pick (t 225) (t 228) (.c .ff)),m 230 229,fq 231 2 27 230 true,lq 232 231 230 true,q 233 (.bin .eq (t 232) (z 97)) 230 true,o 234 (.pick (t 230) (t 233) (.c .ff)),m 39 234] ([6,7,10,11,14,27]++rg 197 38) (sr [m 235 24,o 236 (.cvBS (t 235)),o 237 (.bin .eq (t 236) (.c (.s [0,0,4,8,0,0,0,0,0,0,0,0,100]))),m 238 237,q 239 (.load true 4 (t 25)) 238 true,q 240 (.build z1 [(0,1,(.c (.i .u8 (.l 8)))),(3,1,(z 100))]) 238 true,q 241 (.eqA ⟨true,[.ki,.ki,.ki,.ki]⟩ false (t 239) (t 240)) 238 true,o 242 (.pick (t 238) (t 241) (.c .ff)),m 243 242,fq 244 5 23 243 true,lq 245 244 243 true,q 246 (.bin .eq (t 245) (z 65535)) 243 true,o 247 (.pick (t 243) (t 246) (.c .ff)),m 248 247,fq 249 6 23 248 true,lq 250 249 248 true,q 251 (.bin .eq (t 250) (z 0)) 248 true,o 252 (.pick (t 248) (t 251) (.c .ff)),m 253 252,fq 254 5 17 253 true,lq 255 254 253 true,q 256 (.bin .eq (t 255) (z 65435)) 253 true,o 257 (.pick (t 253) (t 256) (.c .ff)),m 40 257] ([17,23,24,25]++rg 235 23) (.seq (.draw [m 258 39,m 259 258,mq 260 40 259 true,o 261 (.pick (t 259) (t 260) (.c .ff)),m 262 261,fq 263 4 9 262 true,lq 264 263 262 true,q 265 (.bin .eq (t 264) (z 65532)) 262 true,o 266 (.pick (t 262) (t 265) (.c .ff)),m 267 266,fq 268 4 33 267 true,lq 269 268 267 true,q 270 (.bin .eq (t 269) (z 65535)) 267 true,o 271 (.pick (t 267) (t 270) (.c .ff)),m 272 271,fq 273 7 35 272 true,lq 274 273 272 true,q 275 (.iadS 11 (t 274) (z 0)) 272 true,fq 276 2 275 272 true,lq 277 276 272 true,q 278 (.bin .eq (t 277) (z 100)) 272 true,o 279 (.pick (t 272) (t 278) (.c .ff)),m 280 279,fq 281 7 37 280 true,lq 282 281 280 true,q 283 (.len false (t 282)) 280 true,q 284 (.bin .eq (t 283) (z 0)) 280 true,o 285 (.pick (t 280) (t 284) (.c .ff)),m 286 285,fq 287 17 29 286 true,lq 288 287 286 true,o 289 (.pick (t 286) (t 288) (.c .ff)),m 290 289,fq 291 0 29 290 true,lq 292 291 290 true,q 293 (.len false (t 292)) 290 true,q 294 (.bin .eq (t 293) (z 1)) 290 true,o 295 (.pick (t 290) (t 294) (.c .ff)),m 296 295,q 297 (.load true 18 (t 3)) 296 true,q 298 (f 29 [(t 297)]) 296 true,o 299 (.pick (t 296) (t 298) (.c .ff)),m 300 299,q 301 (.build z0 []) 300 true,q 302 (f 29 [(t 301)]) 300 true,q 303 (.not (t 302)) 300 true,o 304 (.pick (t 300) (t 303) (.c .ff)),m 305 304,q 306 (.load true 7 (t 2)) 305 true,q 307 (f 30 [(t 306)]) 305 true,o 308 (.pick (t 305) (t 307) (.c .ff)),m 309 308,q 310 (.build z3 [(0,1,(.c (.i .u8 (.l 7))))]) 309 true,q 311 (f 30 [(t 310)]) 309 true,q 312 (.not (t 311)) 309 true,o 313 (.pick (t 309) (t 312) (.c .ff)),m 314 313,q 315 (.load true 18 (t 9)) 314 true,q 316 (f 32 [(t 315)]) 314 true,q 317 (.load true 18 (t 9)) 314 true,q 318 (f 31 [(t 316),(t 317)]) 314 true,o 319
 (.pick (t 314) (t 318) (.c .ff)),m 320 319,q 321 (.load true 18 (t 3)) 320 true,q 322 (.load true 18 (t 5)) 320 true,q 323 (f 31 [(t 321),(t 322)]) 320 true,q 324 (.not (t 323)) 320 true,o 325 (.pick (t 320) (t 324) (.c .ff)),m 0 325] [[],[0],[1],[1,2],[3,1],[4],[5,4],[6,4],[4,7],[8,4],[9],[10,9],[11,9],[9,12],[13,9],[14],[15,14],[16,14],[17,14],[18,14],[19,14],[14,20],[21,14],[22],[23,22],[24,22],[25,22],[22,26],[27,22],[28],[29,28],[28,30],[31,28],[32],[33,32],[34,32],[35,32],[32,36],[37,32],[38],[39,38,38],[38,40],[41,40],[42],[43,42,42],[44,42],[42,45],[46,44],[47],[48,47,47],[47,49],[50,49],[51],[52,51,51],[53,51],[51,54],[55,53],[56],[57,56,56],[56],[58,59,58,56],[56,60],[61,60],[62],[62],[63,64,62,62],[65,62],[62,66],([67,65]++rg 0 68)] ([1000701,2,3,5,9,29,33,35,37,39,40]++rg 258 68)) .ret)))))))))))))))))))))
theorem qte:FnIs Tryz.prog 7 326 [.t 0] qzacd:=fi qsp Tryz.func7 Tryz.call7
def qxe:Nat->List Nat:=kk [[0,7,9],[],[12,13],[3,14,15],[17,18,19],[21,22,23,24],[25,26,27,28],([11]++rg 29 5),[34,35],([1000900,10]++rg 37 12),[49],([1,2]++rg 51 6),[9],(rg 58 5),([1000901,10]++rg 63 13),[76,77,78]]
def qzaaz:List Nat:=([0,3,4,5,7,9]++rg 11 68)
def qzadl:List (Nat×List Nat):=([(0,[])]++og 2 10++[(1,[4,6,8,10]),(12,[4,6,8,10]),(13,[4,6,8,10]),(14,[]),(15,[])])
def qzadk:List (Nat×List Nat):=([(0,[])]++og 2 11++[(1,[4,6,8,10]),(13,[4,6,8,10]),(14,[4,6,8,10]),(15,[]),(16,[])])
def qzapm:Cd Tryz.prog qxe Tryz.f9:=by refine⟨?_,?_⟩;rotate_left;(cbv;try rfl)
def write_Step:IR:=qzapm.c
theorem qzaom:FnIs Tryz.prog 9 79 [.c 6 true 18,.t 7,.c 8 true 4,.t 9] write_Step:=fi qxe Tryz.func9 Tryz.call9
def qzacl:Nat->List Nat:=kk [[0],[],[9,10],[13],([1003200,3,5]++rg 14 5),[],[19],[],[24,25],([8]++rg 26 5),[31],[3,6,32,33,34,35],([1003201]++rg 36 10),[1,46]]
def qzadz:List Nat:=([0,4,5]++rg 7 13++rg 23 24)
def qzagq:List (Nat×List Nat):=[(0,[]),(1,[]),(2,[0]),(3,[0]),(4,[]),(5,[])]
def qzagp:List (Nat×List Nat):=[(0,[]),(1,[]),(2,[]),(4,[]),(5,[]),(3,[5]),(7,[]),(8,[]),(6,[]),(9,[]),(10,[]),(11,[])]
def qzatv:Cd Tryz.prog qzacl Tryz.f32:=by refine⟨?_,?_⟩;rotate_left;(cbv;try rfl)
def write_Own:IR:=qzatv.c
theorem qzasq:FnIs Tryz.prog 32 47 [.c 2 true 18] write_Own:=fi qzacl Tryz.func32 Tryz.call32
def qho:Nat->List Nat:=kk [[0,2],(rg 5 26),[],[],[32,33,34,35],[37,38],(rg 39 6),[],[],[46,47,48,49],[51,52],([1000600]++rg 53 31),[],(rg 85 23),[],([1]++rg 109 6)]
def qew:List Nat:=([0,2,3]++rg 5 110)
def qev:List Nat:=([0,2]++rg 4 111)
def qfc:List (Nat×List Nat):=(og 0 32)
def qvt:Cd Tryz.prog qho Tryz.f6:=by refine⟨?_,?_⟩;rotate_left;(cbv;try rfl)
def qzabi:IR:=qvt.c
theorem qss:FnIs Tryz.prog 6 115 [.t 2] qzabi:=fi qho Tryz.func6 Tryz.call6
def qgv:Nat->List Nat:=kk [[0],[],[4,5,6,7],[9,10],(rg 11 7),([1,3]++rg 19 6),(rg 26 13),[39],(rg 41 8),[1,49,50,51],(rg 53 8),[61],(rg 63 10),[1,73,74,75],[76]]
def qeh:List Nat:=([0]++rg 4 73)
def qtg:Cd Tryz.prog qgv Tryz.f117:=by refine⟨?_,?_⟩;rotate_left;(cbv;try rfl)
def qzg:IR:=qtg.c
theorem qgx:FnIs Tryz.prog 117 77 [.c 2 true 3] qzg:=fi qgv Tryz.func117 Tryz.call117
def qfi:Nat->List Nat:=kk [[2],[],[],[9,10,11],[13,14],([6]++rg 15 10),([8]++rg 25 10),([5,7]++rg 35 5),[3,40]]
def qkg:List Nat:=([1,2]++rg 5 36)
def qpr:Cd Tryz.prog qfi Tryz.f177:=by refine⟨?_,?_⟩;rotate_left;(cbv;try rfl)
def qth:IR:=qpr.c
theorem qoj:FnIs Tryz.prog 177 41 [.t 2] qth:=fi qfi Tryz.func177 Tryz.call177
def qmw:Nat->List Nat:=kk [[0,2],([1022000,1]++rg 3 11)]
def qsj:List (Nat×List Nat):=[(0,[]),(1,[]),(3,[]),(4,[]),(5,[]),(7,[]),(8,[]),(2,[4,8]),(6,[8]),(9,[]),(10,[]),(11,[])]
def qzads:Cd Tryz.prog qmw Tryz.f220:=by refine⟨?_,?_⟩;rotate_left;(cbv;try rfl)
def qzakf:IR:=qzads.c
theorem qzaaq:FnIs Tryz.prog 220 14 [.t 2] qzakf:=fi qmw Tryz.func220 Tryz.call220
def qhr:Nat->List Nat:=kk [[0,2],[7,8,9],[],[],[11],[13,14],[15,16,17,18],[19],([5]++rg 21 7),([4,6]++rg 28 12)]
def qnh:List Nat:=([0,2]++rg 4 37)
def qvw:Cd Tryz.prog qhr Tryz.f55:=by refine⟨?_,?_⟩;rotate_left;(cbv;try rfl)
def qzabl:IR:=qvw.c
theorem qid:FnIs Tryz.prog 55 41 [.t 2] qzabl:=fi qhr Tryz.func55 Tryz.call55
def qjk:Nat->List Nat:=kk [[2],[],[],(rg 6 5),[12,13],[14,15,16],([5]++rg 17 9),[3,26]]
def qoo:List Nat:=([1,2]++rg 5 22)
def qzc:Cd Tryz.prog qjk Tryz.f181:=by refine⟨?_,?_⟩;rotate_left;(cbv;try rfl)
def qzaeg:IR:=qzc.c
theorem qve:FnIs Tryz.prog 181 27 [.t 2] qzaeg:=fi qjk Tryz.func181 Tryz.call181
def qhm:Nat->List Nat:=kk [[0,4],[],[6,7,8,9],[11,12],(rg 13 7),[5,21]]
def qne:List Nat:=([0,3,4]++rg 6 16)
def qvr:Cd Tryz.prog qhm Tryz.f38:=by refine⟨?_,?_⟩;rotate_left;(cbv;try rfl)
def qzabg:IR:=qvr.c
theorem qsq:FnIs Tryz.prog 38 22 [.t 4] qzabg:=fi qhm Tryz.func38 Tryz.call38
def qpl:Nat->List Nat:=kk [[2],([0]++rg 3 6)]
def qvy:IR:=
 (sr [o 2 (.mv (.c .ff))] [2] (sr [m 3 0,o 4 (.bin .eq (t 3) (.c (.i .u8 (.l 1)))),m 5 4,mq 6 0 5 false,q 7 (.bin .eq (t 6) (.c (.i .u8 (.l 2)))) 5 false,o 8 (.pick (t 5) (.c .tt) (t 7)),m 2 8] ([0]++rg 3 6) .ret))
theorem qpn:FnIs Tryz.prog 53 9 [.t 2] qvy:=fi qpl Tryz.func53 Tryz.call53
def qjf:Nat->List Nat:=kk [[0,4],[],[6,7,8,9],[11,12],(rg 13 7),[5,21]]
def qol:List Nat:=([0,3,4]++rg 6 16)
def qyw:Cd Tryz.prog qjf Tryz.f54:=by refine⟨?_,?_⟩;rotate_left;(cbv;try rfl)
def qzaea:IR:=qyw.c
theorem quz:FnIs Tryz.prog 54 22 [.t 4] qzaea:=fi qjf Tryz.func54 Tryz.call54
def qut:Nat->List Nat:=kk [[2],[3,4],[],[0,6,7,8]]
def qzaeh:IR:=
 (sr [o 2 (.mv (z 0))] [2] (.seq (sr [m 3 0,o 4 (f 121 [(t 3)]),o 5 (.not (t 4))] [3,4] (.cond (t 5) (sr [o 2 (.mv (z 0))] [] .ret) .skip)) (sr [m 6 0,o 7 (f 181 [(t 6)]),o 8 (.len false (t 7)),m 2 8] [0,6,7,8] .ret)))
theorem qvf:FnIs Tryz.prog 183 9 [.t 2] qzaeh:=fi qut Tryz.func183 Tryz.call183
def quu:Nat->List Nat:=kk [[0,2],([1]++rg 3 8)]
def qzael:IR:=
 (sr [o 1 (.box (t 0)),o 2 (.mv (z 0))] [0,2] (sr [fd 3 0 1,l1 4 3,o 5 (.len true (t 4)),fd 6 1 1,l1 7 6,o 8 (.len true (t 7)),o 9 (.bin .add (t 5) (t 8)),o 10 (.bin .add (t 9) (z 32)),m 2 10] ([1]++rg 3 8) .ret))
theorem qvi:FnIs Tryz.prog 118 11 [.t 2] qzael:=fi quu Tryz.func118 Tryz.call118
def qzarv:Nat->List Nat:=kk [[0,2,3,4],[1,5,6,7,8,9]]
def turn_Next:IR:=
 (sr [o 1 (.box (t 0)),o 2 (.mv (z 0)),o 3 (.mv (z 0)),o 4 (.mv (.c .ff))] [0,2,3,4] (sr [o 5 (.load true 9 (t 1)),o 6 (f 141 [(t 5),(.c (.fn (.func 197) [] []))]),ex 7 6 0,ex 8 6 1,ex 9 6 2,m 2 7,m 3 8,m 4 9] [1,5,6,7,8,9] .ret))
theorem qzasx:FnIs Tryz.prog 156 10 [.t 2,.t 3,.t 4] turn_Next:=fi qzarv Tryz.func156 Tryz.call156
def qla:Nat->List Nat:=kk [[5],[],[10,11],([4]++rg 12 13),[26]]
def qde:List Nat:=([2,3,4,5]++rg 9 18)
def qzm:Cd Tryz.prog qla Tryz.f140:=by refine⟨?_,?_⟩;rotate_left;(cbv;try rfl)
def qzafl:IR:=qzm.c
theorem qfk:FnIs Tryz.prog 140 27 [] qzafl:=fi qla Tryz.func140 Tryz.call140
def qsm:Nat->List Nat:=kk [[2],([0]++rg 3 6)]
def qzabo:IR:=
 (sr [o 2 (.mv (.c .ff))] [2] (sr [m 3 0,o 4 (.bin .ge (t 3) (z (-2147483647))),m 5 4,mq 6 0 5 true,q 7 (.bin .le (t 6) (z 2147483647)) 5 true,o 8 (.pick (t 5) (t 7) (.c .ff)),m 2 8] ([0]++rg 3 6) .ret))
theorem qsx:FnIs Tryz.prog 19 9 [.t 2] qzabo:=fi qsm Tryz.func19 Tryz.call19
def qql:Nat->List Nat:=kk [[6,7],[13],[],[],[18,19],(rg 20 6),([10]++rg 26 6),[32],(rg 33 5),[],([1,2,8]++rg 39 9),[12],[11,49],[0,50]]
def qzaja:Cd Tryz.prog qql Tryz.f103:=by refine⟨?_,?_⟩;rotate_left;(cbv;try rfl)
def qzaqq:IR:=qzaja.c
theorem qrb:FnIs Tryz.prog 103 51 [.t 6,.t 7] qzaqq:=fi qql Tryz.func103 Tryz.call103
def qqo:Nat->List Nat:=kk [[0],[4,5],[7],[3,8],(rg 10 8),([1]++rg 18 6),(rg 25 8),[33],(rg 35 10),[1,45,46,47],[48]]
def qzaka:Cd Tryz.prog qqo Tryz.f193:=by refine⟨?_,?_⟩;rotate_left;(cbv;try rfl)
def qzasi:IR:=qzaka.c
theorem qfn:FnIs Tryz.prog 193 49 [.c 2 true 3] qzasi:=fi qqo Tryz.func193 Tryz.call193
def qhs:Nat->List Nat:=kk [[0,2],(rg 3 49),[],(rg 53 18),[],([1]++rg 72 14)]
def qvx:Cd Tryz.prog qhs Tryz.f51:=by refine⟨?_,?_⟩;rotate_left;(cbv;try rfl)
def qzabm:IR:=qvx.c
theorem qsv:FnIs Tryz.prog 51 86 [.t 2] qzabm:=fi qhs Tryz.func51 Tryz.call51
def qpe:Nat->List Nat:=kk [[0,4],[5],[7,8],([2]++rg 9 6),[16,17],[1,18,19]]
def qzahm:Cd Tryz.prog qpe Tryz.f199:=by refine⟨?_,?_⟩;rotate_left;(cbv;try rfl)
def qzaoh:IR:=qzahm.c
theorem qph:FnIs Tryz.prog 199 20 [.t 4] qzaoh:=fi qpe Tryz.func199 Tryz.call199
def qxk:Nat->List Nat:=kk [[],[0,13,14],([1,2,3,4]++rg 15 6),[22],[11,12,23,24,25],[11,26,27]]
def qzaqb:Cd Tryz.prog qxk Tryz.f101:=by refine⟨?_,?_⟩;rotate_left;(cbv;try rfl)
def window_Cut:IR:=qzaqb.c
theorem qzaoo:FnIs Tryz.prog 101 28 [.t 10] window_Cut:=fi qxk Tryz.func101 Tryz.call101
def qji:Nat->List Nat:=kk [[2],([0]++rg 3 10)]
def qza:Cd Tryz.prog qji Tryz.f52:=by refine⟨?_,?_⟩;rotate_left;(cbv;try rfl)
def qzaee:IR:=qza.c
theorem qvc:FnIs Tryz.prog 52 13 [.t 2] qzaee:=fi qji Tryz.func52 Tryz.call52
def qzavo:Nat->List Nat:=kk [[0,1,4],[2,3,5,6,7,8]]
def write_at:IR:=
 (sr [o 2 (.box (t 0)),o 3 (.box (t 1)),o 4 (.mv (z 0))] [0,1,4] (sr [fd 5 7 2,l1 6 5,o 7 (.mkF (.func 131) [] [(t 3)]),o 8 (f 99 [(t 6),(t 7)]),m 4 8] [2,3,5,6,7,8] .ret))
theorem qzawc:FnIs Tryz.prog 64 9 [.t 4] write_at:=fi qzavo Tryz.func64 Tryz.call64
def qzahb:Nat->List Nat:=kk [[4,5],([1]++rg 10 6),[7,16],[0,18],(rg 19 6),([0,6,8,9]++rg 25 15)]
def word_Out_c:Cd Tryz.prog qzahb Tryz.f184:=by refine⟨?_,?_⟩;rotate_left;(cbv;try rfl)
def word_Out:IR:=word_Out_c.c
theorem qzahp:FnIs Tryz.prog 184 40 [.t 4,.t 5] word_Out:=fi qzahb Tryz.func184 Tryz.call184
def qxg:Nat->List Nat:=kk [[0,1,4],(rg 7 5),(rg 12 33),([2,3,5,6]++rg 45 25)]
def qzapp:Cd Tryz.prog qxg Tryz.f31:=by refine⟨?_,?_⟩;rotate_left;(cbv;try rfl)
def write_Same:IR:=qzapp.c
theorem qye:FnIs Tryz.prog 31 70 [.t 4] write_Same:=fi qxg Tryz.func31 Tryz.call31
def qzajn:Nat->List Nat:=kk [[0,2],[1,3]]
def qzauf:IR:=
 (sr [o 1 (.box (t 0)),o 2 (.mv (.c (.re .nilFunc)))] [0,2] (sr [o 3 (.mkF (.func 198) [] [(t 1)]),m 2 3] [1,3] .ret))
theorem qzakk:FnIs Tryz.prog 158 4 [.t 2] qzauf:=fi qzajn Tryz.func158 Tryz.call158
def qzajj:Nat->List Nat:=kk [[0,2],[1,3]]
def qzaty:IR:=
 (sr [o 1 (.box (t 0)),o 2 (.mv (.c (.re .nilFunc)))] [0,2] (sr [o 3 (.mkF (.func 240) [] [(t 1)]),m 2 3] [1,3] .ret))
theorem qec:FnIs Tryz.prog 187 4 [.t 2] qzaty:=fi qzajj Tryz.func187 Tryz.call187
def qzajh:Nat->List Nat:=kk [[0,2],[1,3]]
def qzato:IR:=
 (sr [o 1 (.box (t 0)),o 2 (.mv (.c (.re .nilFunc)))] [0,2] (sr [o 3 (.mkF (.func 109) [] [(t 1)]),m 2 3] [1,3] .ret))
theorem qgk:FnIs Tryz.prog 44 4 [.t 2] qzato:=fi qzajh Tryz.func44 Tryz.call44
def qzavp:Nat->List Nat:=kk [[0,2],[1,3]]
def turn_all:IR:=
 (sr [o 1 (.box (t 0)),o 2 (.mv (.c (.re .nilFunc)))] [0,2] (sr [o 3 (.mkF (.func 189) [] [(t 1)]),m 2 3] [1,3] .ret))
theorem qjw:FnIs Tryz.prog 139 4 [.t 2] turn_all:=fi qzavp Tryz.func139 Tryz.call139
end I
end Cz
