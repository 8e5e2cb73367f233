/- What the claims of this group lean on: CzR0. No condition. -/
import Derived.Test.YtfijlhdheiebcaaGreatDoorKB4
set_option maxRecDepth 100000
set_option maxHeartbeats 4000000
namespace Cz
open Go Go.RowKit Go.Proofs
namespace I
def qsp:Nat->List Nat:=kk [[0],[41,42],[43],([1000900,1]++rg 44 6),(rg 50 7),(rg 57 7),([13,15]++rg 64 7),(rg 71 5),(rg 76 6),([19]++rg 82 6),(rg 88 7),(rg 95 5),(rg 100 5),([31]++rg 105 6),(rg 111 5),(rg 116 5),(rg 121 6),([4,8,12,16,18,20,21,22,26,28,30,32,34,36,38]++rg 127 69),[],([6,7,10,11,14,27]++rg 197 38),([17,23,24,25]++rg 235 23),([1000901,2,3,5,9,29,33,35,37,39,40]++rg 258 68)]
def qnn:Spl:=(.node 0 6
 (.node 2 6
 (.leaf ([(1,[]),(0,[1])]++og 2 7))
 (.leaf ([(1,[]),(0,[1]),(6,[1])]++og 2 4++[(7,[]),(8,[])])))
 (.leaf ([(1,[]),(6,[1]),(0,[1])]++og 2 4++[(7,[]),(8,[])])))
def qnz:List (Nat×List Nat):=(og 0 58++[(59,[]),(58,[59])]++og 60 9)
def qzacd:IR:=
 (sr [o 0 (.mv (.c .ff))] [0] (sr [o 41 (.buildS 1 3 [(.i .u8 (.l 0))] [(0,(.c (.i .u8 (.l 7)))),(1,(.c (.i .u8 (.l 8)))),(2,(.c (.i .u8 (.l 9))))]),o 42 (.build z3 [(0,1,(z 1)),(1,1,(.c (.i .u8 (.l 1)))),(2,1,(z 100)),(3,1,(z 50)),(5,1,(.c .tt)),(6,1,(.c .tt)),(7,1,(t 41)),(8,1,(.c (.i .u8 (.l 3)))),(10,1,(z (-1)))]),o 1 (.alloc z3),u (.store 11 (t 1) (t 42))] [41,42] (sr [o 43 (.build z1 [(0,1,(.c (.i .u8 (.l 3))))]),o 2 (.alloc z1),u (.store 7 (t 2) (t 43))] [43] (.seq (.draw [o 45 (f 31 []),o 46 (.load true 11 (t 1)),o 47 (f 30 [(t 45),(t 46)]),m 44 47,ex 48 44 0,ex 49 44 1,o 3 (.alloc z0),u (.store 18 (t 3) (t 48)),m 4 49] [[],[],[0,1,0],[2],[3],[3],[],[6,4,2,0,1,2,3,4,6],([5,7]++rg 0 8)] ([1000900,1]++rg 44 6)) (sr [o 51 (.load true 18 (t 3)),o 52 (f 13 [(t 51),(z 16384),(z 2)]),m 50 52,ex 53 50 0,ex 54 50 1,ex 55 50 2,ex 56 50 3,o 5 (.alloc z0),o 7 (.alloc z2),u (.store 18 (t 5) (t 53)),m 6 54,u (.store 4 (t 7) (t 55)),m 8 56] (rg 50 7) (sr [o 58 (.load true 18 (t 5)),o 59 (f 13 [(t 58),(z 16384),(z 2)]),m 57 59,ex 60 57 0,ex 61 57 1,ex 62 57 2,ex 63 57 3,o 9 (.alloc z0),o 11 (.alloc z2),u (.store 18 (t 9) (t 60)),m 10 61,u (.store 4 (t 11) (t 62)),m 12 63] (rg 57 7) (sr [o 65 (.load true 18 (t 9)),o 66 (f 13 [(t 65),(z 16384),(z 2)]),m 64 66,ex 67 64 0,ex 68 64 1,ex 69 64 2,ex 70 64 3,o 13 (.alloc z0),o 15 (.alloc z2),u (.store 18 (t 13) (t 67)),m 14 68,u (.store 4 (t 15) (t 69)),m 16 70] ([13,15]++rg 64 7) (sr [o 72 (.load true 18 (t 9)),o 73 (f 18 [(t 72),(z 100)]),m 71 73,ex 74 71 0,ex 75 71 1,o 17 (.alloc z0),u (.store 18 (t 17) (t 74)),m 18 75] (rg 71 5) (sr [o 77 (.load true 18 (t 17)),o 78 (.load true 7 (t 2)),o 79 (f 19 [(t 77),(t 78)]),m 76 79,ex 80 76 0,ex 81 76 1,o 19 (.alloc z0),u (.store 18 (t 19) (t 80)),m 20 81] (rg 76 6) (sr [o 83 (.load true 18 (t 19)),o 84 (.load true 7 (t 2)),o 85 (f 19 [(t 83),(t 84)]),m 82 85,ex 86 82 0,ex 87 82 1,o 21 (.alloc z0),u (.store 18 (t 21) (t 86)),m 22 87] ([19]++rg 82 6) (sr [o 89 (.load true 18 (t 21)),o 90 (f 13 [(t 89),(z 16384),(z 2)]),m 88 90,ex 91 88 0,ex 92 88 1,ex 93 88 2,ex 94 88 3,o 23 (.alloc z0),o 25 (.alloc z2),u (.store 18 (t 23) (t 91)),m 24 92,u (.store 4 (t 25) (t 93)),m 26 94] (rg 88 7) (sr [o 96 (.load true 18 (t 9)),o 97 (f 32 [(t 96),(z 1)]),m 95 97,ex 98 95 0,ex 99 95 1,o 27 (.alloc z3),u (.store 11 (t 27) (t 98)),m 28 99] (rg 95 5) (sr [o 101 (.load true 18 (t 9)),o 102 (f 22 [(t 101),(z 1),(.c (.i .u32 (.l 2)))]),m 100 102,ex 103 100 0,ex 104 100 1,o 29 (.alloc z0),u (.store 18 (t 29) (t 103)),m 30 104] (rg 100 5) (sr [o 106 (.load true 18 (t 29)),o 107 (.load true 7 (t 2)),o 108 (f 19 [(t 106),(t 107)]),m 105 108,ex 109 105 0,ex 110 105 1,o 31 (.alloc z0),u (.store 18 (t 31) (t 109)),m 32 110] ([31]++rg 105 6) (sr [o 112 (.load true 18 (t 9)),o 113 (f 33 [(t 112),(z 3)]),m 111 113,ex 114 111 0,ex 115 111 1,o 33 (.alloc z0),u (.store 18 (t 33) (t 114)),m 34 115] (rg 111 5) (sr [o 117 (.load true 18 (t 9)),o 118 (f 34 [(t 117),(z 3)]),m 116 118,ex 119 116 0,ex 120 116
 1,o 35 (.alloc z0),u (.store 18 (t 35) (t 119)),m 36 120] (rg 116 5) (sr [o 122 (.load true 18 (t 9)),o 123 (.build z3 [(0,1,(z 1)),(1,1,(.c (.i .u8 (.l 6)))),(10,1,(z (-1)))]),o 124 (f 35 [(t 122),(t 123)]),m 121 124,ex 125 121 0,ex 126 121 1,o 37 (.alloc z0),u (.store 18 (t 37) (t 125)),m 38 126] (rg 121 6) (.seq (sr [fd 127 0 23,l1 128 127,o 129 (.len false (t 128)),o 130 (.bin .ne (t 129) (z 0)),m 131 130,fq 132 0 21 131 false,lq 133 132 131 false,q 134 (.len false (t 133)) 131 false,q 135 (.bin .ne (t 134) (z 1)) 131 false,o 136 (.pick (t 131) (.c .tt) (t 135)),m 137 136,fq 138 7 35 137 false,lq 139 138 137 false,q 140 (.len false (t 139)) 137 false,q 141 (.bin .ne (t 140) (z 1)) 137 false,o 142 (.pick (t 137) (.c .tt) (t 141)),m 143 142,mq 144 4 143 false,q 145 (.not (t 144)) 143 false,o 146 (.pick (t 143) (.c .tt) (t 145)),m 147 146,mq 148 8 147 false,q 149 (.not (t 148)) 147 false,o 150 (.pick (t 147) (.c .tt) (t 149)),m 151 150,mq 152 12 151 false,q 153 (.not (t 152)) 151 false,o 154 (.pick (t 151) (.c .tt) (t 153)),m 155 154,mq 156 16 155 false,o 157 (.pick (t 155) (.c .tt) (t 156)),m 158 157,mq 159 18 158 false,q 160 (.not (t 159)) 158 false,o 161 (.pick (t 158) (.c .tt) (t 160)),m 162 161,mq 163 20 162 false,q 164 (.not (t 163)) 162 false,o 165 (.pick (t 162) (.c .tt) (t 164)),m 166 165,mq 167 22 166 false,q 168 (.not (t 167)) 166 false,o 169 (.pick (t 166) (.c .tt) (t 168)),m 170 169,mq 171 26 170 false,q 172 (.not (t 171)) 170 false,o 173 (.pick (t 170) (.c .tt) (t 172)),m 174 173,mq 175 28 174 false,q 176 (.not (t 175)) 174 false,o 177 (.pick (t 174) (.c .tt) (t 176)),m 178 177,mq 179 30 178 false,q 180 (.not (t 179)) 178 false,o 181 (.pick (t 178) (.c .tt) (t 180)),m 182 181,mq 183 32 182 false,o 184 (.pick (t 182) (.c .tt) (t 183)),m 185 184,mq 186 34 185 false,q 187 (.not (t 186)) 185 false,o 188 (.pick (t 185) (.c .tt) (t 187)),m 189 188,mq 190 36 189 false,q 191 (.not (t 190)) 189 false,o 192 (.pick (t 189) (.c .tt) (t 191)),m 193 192,mq 194 38 193 false,q 195 (.not (t 194)) 193 false,o 196 (.pick (t 193) (.c .tt) (t 195))] ([4,8,12,16,18,20,21,22,26,28,30,32,34,36,38]++rg 127 69) (.cond (t 196) (sr [o 0 (.mv (.c .ff))] [] .ret) .skip)) (sr [m 197 6,o 198 (.cvBS (t 197)),o 199 (.bin .eq (t 198) (.c (.s [0,0,2,0,0,0,0,0,1,7,8]))),m 200 199,q 201 (.load true 4 (t 7)) 200 true,q 202 (.build z2 [(0,1,(.c (.i .u8 (.l 0)))),(2,1,(z 1)),(3,1,(z 2))]) 200 true,q 203 (.eqA ⟨true,[.ki,.ki,.ki,.ki]⟩ false (t 201) (t 202)) 200 true,o 204 (.pick (t 200) (t 203) (.c .ff)),m 205 204,mq 206 10 205 true,q 207 (.cvBS (t 206)) 205 true,q 208 (.bin .eq (t 207) (.c (.s [0,0,1,0,1,0,0,0,1,9]))) 205 true,o 209 (.pick (t 205) (t 208) (.c .ff)),m 210 209,q 211 (.load true 4 (t 11)) 210 true,q 212 (.build z2 [(0,1,(.c (.i .u8 (.l 0)))),(1,1,(.c (.i .u8 (.l 1)))),(2,1,(z 1)),(3,1,(z 1))]) 210 true,q 213 (.eqA ⟨true,[.ki,.ki,.ki,.ki]⟩ false (t 211) (t 212)) 210 true,o 214 (.pick (t 210) (t 213) (.c .ff)),m 215 214,mq 216 14 215 true,q 217 (.len false (t
 216)) 215 true,q 218 (.bin .eq (t 217) (z 0)) 215 true,o 219 (.pick (t 215) (t 218) (.c .ff)),m 220 219,fq 221 1 27 220 true,lq 222 221 220 true,q 223 (.bin .eq (t 222) (.c (.i .u8 (.l 3)))) 220 true,o 224 (.pick (t 220) (t 223) (.c .ff)),m 225 224,fq 226 10 27 225 true,lq 227 226 225 true,q 228 (.bin .eq (t 227) (z (-1))) 225 true,o 229 (.pick (t 225) (t 228) (.c .ff)),m 230 229,fq 231 2 27 230 true,lq 232 231 230 true,q 233 (.bin .eq (t 232) (z 97)) 230 true,o 234 (.pick (t 230) (t 233) (.c .ff)),m 39 234] ([6,7,10,11,14,27]++rg 197 38) (sr [m 235 24,o 236 (.cvBS (t 235)),o 237 (.bin .eq (t 236) (.c (.s [0,0,4,8,0,0,0,0,0,0,0,0,100]))),m 238 237,q 239 (.load true 4 (t 25)) 238 true,q 240 (.build z2 [(0,1,(.c (.i .u8 (.l 8)))),(3,1,(z 100))]) 238 true,q 241 (.eqA ⟨true,[.ki,.ki,.ki,.ki]⟩ false (t 239) (t 240)) 238 true,o 242 (.pick (t 238) (t 241) (.c .ff)),m 243 242,fq 244 5 23 243 true,lq 245 244 243 true,q 246 (.bin .eq (t 245) (z 65535)) 243 true,o 247 (.pick (t 243) (t 246) (.c .ff)),m 248 247,fq 249 6 23 248 true,lq 250 249 248 true,q 251 (.bin .eq (t 250) (z 0)) 248 true,o 252 (.pick (t 248) (t 251) (.c .ff)),m 253 252,fq 254 5 17 253 true,lq 255 254 253 true,q 256 (.bin .eq (t 255) (z 65435)) 253 true,o 257 (.pick (t 253) (t 256) (.c .ff)),m 40 257] ([17,23,24,25]++rg 235 23) (.seq (.draw [m 258 39,m 259 258,mq 260 40 259 true,o 261 (.pick (t 259) (t 260) (.c .ff)),m 262 261,fq 263 4 9 262 true,lq 264 263 262 true,q 265 (.bin .eq (t 264) (z 65532)) 262 true,o 266 (.pick (t 262) (t 265) (.c .ff)),m 267 266,fq 268 4 33 267 true,lq 269 268 267 true,q 270 (.bin .eq (t 269) (z 65535)) 267 true,o 271 (.pick (t 267) (t 270) (.c .ff)),m 272 271,fq 273 7 35 272 true,lq 274 273 272 true,q 275 (.iadS 11 (t 274) (z 0)) 272 true,fq 276 2 275 272 true,lq 277 276 272 true,q 278 (.bin .eq (t 277) (z 100)) 272 true,o 279 (.pick (t 272) (t 278) (.c .ff)),m 280 279,fq 281 7 37 280 true,lq 282 281 280 true,q 283 (.len false (t 282)) 280 true,q 284 (.bin .eq (t 283) (z 0)) 280 true,o 285 (.pick (t 280) (t 284) (.c .ff)),m 286 285,fq 287 17 29 286 true,lq 288 287 286 true,o 289 (.pick (t 286) (t 288) (.c .ff)),m 290 289,fq 291 0 29 290 true,lq 292 291 290 true,q 293 (.len false (t 292)) 290 true,q 294 (.bin .eq (t 293) (z 1)) 290 true,o 295 (.pick (t 290) (t 294) (.c .ff)),m 296 295,q 297 (.load true 18 (t 3)) 296 true,q 298 (f 36 [(t 297)]) 296 true,o 299 (.pick (t 296) (t 298) (.c .ff)),m 300 299,q 301 (.build z0 []) 300 true,q 302 (f 36 [(t 301)]) 300 true,q 303 (.not (t 302)) 300 true,o 304 (.pick (t 300) (t 303) (.c .ff)),m 305 304,q 306 (.load true 7 (t 2)) 305 true,q 307 (f 37 [(t 306)]) 305 true,o 308 (.pick (t 305) (t 307) (.c .ff)),m 309 308,q 310 (.build z1 [(0,1,(.c (.i .u8 (.l 7))))]) 309 true,q 311 (f 37 [(t 310)]) 309 true,q 312 (.not (t 311)) 309 true,o 313 (.pick (t 309) (t 312) (.c .ff)),m 314 313,q 315 (.load true 18 (t 9)) 314 true,q 316 (f 39 [(t 315)]) 314 true,q 317 (.load true 18 (t 9)) 314 true,q 318 (f 38 [(t 316),(t 317)]) 314 true,o
 319 (.pick (t 314) (t 318) (.c .ff)),m 320 319,q 321 (.load true 18 (t 3)) 320 true,q 322 (.load true 18 (t 5)) 320 true,q 323 (f 38 [(t 321),(t 322)]) 320 true,q 324 (.not (t 323)) 320 true,o 325 (.pick (t 320) (t 324) (.c .ff)),m 0 325] [[],[0],[1],[1,2],[3,1],[4],[5,4],[6,4],[4,7],[8,4],[9],[10,9],[11,9],[9,12],[13,9],[14],[15,14],[16,14],[17,14],[18,14],[19,14],[14,20],[21,14],[22],[23,22],[24,22],[25,22],[22,26],[27,22],[28],[29,28],[28,30],[31,28],[32],[33,32],[34,32],[35,32],[32,36],[37,32],[38],[39,38,38],[38,40],[41,40],[42],[43,42,42],[44,42],[42,45],[46,44],[47],[48,47,47],[47,49],[50,49],[51],[52,51,51],[53,51],[51,54],[55,53],[56],[57,56,56],[56],[58,59,58,56],[56,60],[61,60],[62],[62],[63,64,62,62],[65,62],[62,66],([67,65]++rg 0 68)] ([1000901,2,3,5,9,29,33,35,37,39,40]++rg 258 68)) .ret)))))))))))))))))))))
theorem qte:FnIs Tryz.prog 9 326 [.t 0] qzacd:=fi qsp Tryz.func9 Tryz.call9
def qhy:Nat->List Nat:=kk [[0,2],(rg 6 7),([1005700,3]++rg 13 7),([1005701,1,4,5]++rg 20 8)]
def qez:Spl:=(.node 2 7
 (.node 2 8
 (.node 3 7
 (.node 3 8
 (.node 7 8
 (.leaf ([(0,[]),(1,[]),(2,[0])]++og 3 8))
 (.leaf ([(0,[]),(1,[]),(2,[0])]++og 3 4++[(8,[]),(7,[]),(9,[]),(10,[])])))
 (.leaf ([(0,[]),(1,[]),(2,[0]),(8,[0])]++og 3 5++[(9,[]),(10,[])])))
 (.node 7 8
 (.node 3 8
 (.leaf ([(0,[]),(1,[]),(2,[0]),(7,[0])]++og 3 4++[(8,[]),(9,[]),(10,[])]))
 (.leaf ([(0,[]),(1,[]),(2,[0]),(7,[0]),(8,[0])]++og 3 4++[(9,[]),(10,[])])))
 (.leaf ([(0,[]),(1,[]),(2,[0]),(8,[0]),(7,[0])]++og 3 4++[(9,[]),(10,[])]))))
 (.node 3 7
 (.leaf ([(0,[]),(1,[]),(8,[0,1]),(2,[0])]++og 3 5++[(9,[]),(10,[])]))
 (.leaf ([(0,[]),(1,[]),(8,[0,1]),(2,[0]),(7,[0])]++og 3 4++[(9,[]),(10,[])]))))
 (.node 7 8
 (.node 2 8
 (.node 3 8
 (.leaf ([(0,[]),(1,[]),(7,[0,1]),(2,[0])]++og 3 4++[(8,[]),(9,[]),(10,[])]))
 (.leaf ([(0,[]),(1,[]),(7,[0,1]),(2,[0]),(8,[0])]++og 3 4++[(9,[]),(10,[])])))
 (.leaf ([(0,[]),(1,[]),(7,[0,1]),(8,[0,1]),(2,[0])]++og 3 4++[(9,[]),(10,[])])))
 (.leaf ([(0,[]),(1,[]),(8,[0,1]),(7,[0,1]),(2,[0])]++og 3 4++[(9,[]),(10,[])]))))
def qfd:List (Nat×List Nat):=([(0,[]),(1,[0])]++og 2 7)
def qwf:Cd Tryz.prog qhy Tryz.f57:=by refine⟨?_,?_⟩;rotate_left;(cbv;try rfl)
def qzaby:IR:=qwf.c
theorem qig:FnIs Tryz.prog 57 28 [.t 2] qzaby:=fi qhy Tryz.func57 Tryz.call57
def qzaye:Nat->List Nat:=kk [[4,5],(rg 7 5),[],([0]++rg 13 5),[1,6,18,19,20]]
def qzayr:IR:=
 (sr [o 4 (.mv (.c (.re (.slice none 0 0)))),o 5 (.mv (z 0))] [4,5] (.seq (sr [m 7 1,o 8 (.bin .lt (t 7) (z 0)),m 9 8,mq 10 1 9 false,q 11 (.bin .gt (t 10) (z 255)) 9 false,o 12 (.pick (t 9) (.c .tt) (t 11))] (rg 7 5) (.cond (t 12) (sr [o 4 (.mv (.c (.re (.slice none 0 0)))),o 5 (.mv (z 2))] [] .ret) .skip)) (sr [m 13 1,o 14 (.cv .u8 (t 13)),o 15 (.buildS 1 1 [(.i .u8 (.l 0))] [(0,(t 14))]),m 16 0,o 17 (.app 1 (t 15) (t 16)),m 6 17] ([0]++rg 13 5) (sr [m 18 6,m 19 1,o 20 (.appZ 1 [(.i .u8 (.l 0))] (t 18) (t 19)),m 4 20,o 5 (.mv (z 0))] [1,6,18,19,20] .ret))))
theorem qzayg:FnIs Tryz.prog 185 21 [.t 4,.t 5] qzayr:=fi qzaye Tryz.func185 Tryz.call185
def qto:Nat->List Nat:=kk [[0],[],(rg 14 14),[29,30],[33],[7,34,35],[37],[],[42,43],([1003600,4]++rg 44 23),[68,69],[70,71],(rg 73 5),([9]++rg 79 5),[84],[85],[87],[88],([1,10]++rg 89 7),([11,12,13]++rg 96 6),[5,103,104],([1003601,1,5]++rg 105 5)]
def qyu:List Nat:=([0]++rg 6 32++rg 41 46++rg 89 21)
def qmn:List (Nat×List Nat):=(og 0 18++[(19,[]),(20,[]),(21,[]),(18,[20]),(22,[]),(23,[])])
def qzw:List (Nat×List Nat):=[(0,[]),(1,[]),(2,[]),(3,[0]),(4,[]),(5,[])]
def qzamb:Cd Tryz.prog qto Tryz.f36:=by refine⟨?_,?_⟩;rotate_left;(cbv;try rfl)
def qzatt:IR:=qzamb.c
theorem quc:FnIs Tryz.prog 36 110 [.t 2] qzatt:=fi qto Tryz.func36 Tryz.call36
def qpa:Nat->List Nat:=kk [[3],[7,8,9,10],[],[14],([1007500]++rg 15 12),[6,27],[],([1007501,4,5]++rg 29 7),[36],[0,37,38]]
def qik:List Nat:=(rg 2 9++rg 13 26)
def qem:Spl:=(.node 8 12
 (.leaf (og 0 15))
 (.leaf (og 0 8++[(12,[3,6,7])]++og 8 4++[(13,[]),(14,[])])))
def qjd:List (Nat×List Nat):=(og 0 8)
def qzafn:Cd Tryz.prog qpa Tryz.f75:=by refine⟨?_,?_⟩;rotate_left;(cbv;try rfl)
def qzama:IR:=qzafn.c
theorem qpf:FnIs Tryz.prog 75 39 [.t 3] qzama:=fi qpa Tryz.func75 Tryz.call75
def qtp:Nat->List Nat:=kk [[],(rg 6 16),[],[23],[24,25,26,27],[29],([1005000,4,5]++rg 31 6),([4]++rg 37 12),([1005001,0,1]++rg 50 11)]
def qzy:List (Nat×List Nat):=(og 0 4++[(4,[2]),(5,[]),(6,[])])
def qzx:List (Nat×List Nat):=(og 0 6++[(6,[4]),(7,[4])]++og 8 4)
def qzamc:Cd Tryz.prog qtp Tryz.f50:=by refine⟨?_,?_⟩;rotate_left;(cbv;try rfl)
def qzatu:IR:=qzamc.c
theorem qlx:FnIs Tryz.prog 50 61 [.t 3] qzatu:=fi qtp Tryz.func50 Tryz.call50
def qeu:Nat->List Nat:=kk [[2,3],[10,11,12],[],[],[],[14,15,16],[18,19],([7]++rg 20 6),([9]++rg 26 7),([6,8]++rg 33 8),[4,41]]
def qiw:List Nat:=([1,2,3]++rg 6 36)
def qot:Cd Tryz.prog qeu Tryz.f178:=by refine⟨?_,?_⟩;rotate_left;(cbv;try rfl)
def qrl:IR:=qot.c
theorem qnc:FnIs Tryz.prog 178 42 [.t 2,.t 3] qrl:=fi qeu Tryz.func178 Tryz.call178
def qjj:Nat->List Nat:=kk [[2],[5,6,7,8],[],[9,10,11],[13,14],([1018800]++rg 15 20),[3,35]]
def qon:List Nat:=([1,2]++rg 5 31)
def qpk:List (Nat×List Nat):=(og 0 21)
def qzb:Cd Tryz.prog qjj Tryz.f188:=by refine⟨?_,?_⟩;rotate_left;(cbv;try rfl)
def qzaef:IR:=qzb.c
theorem qvd:FnIs Tryz.prog 188 36 [.t 2] qzaef:=fi qjj Tryz.func188 Tryz.call188
def qzaju:Nat->List Nat:=kk [[],[0,1,5,6,7]]
def qzavu:IR:=
 (sr [o 4 (.alloc [(.i .i64 (.l 0)),(.re .nilFunc),(.re .nilFunc),(.re .nilFunc)])] [] (sr [m 5 0,m 6 1,o 7 (.build [(.i .i64 (.l 0)),(.re .nilFunc),(.re .nilFunc),(.re .nilFunc)] [(0,1,(t 5)),(1,1,(t 6)),(2,1,(.c (.fn (.func 232) [] []))),(3,1,(.c (.fn (.func 233) [] [])))]),u (.store 4 (t 4) (t 7))] [0,1,5,6,7] .ret))
theorem qed:FnIs Tryz.prog 166 8 [.c 4 true 4] qzavu:=fi qzaju Tryz.func166 Tryz.call166
def qco:Nat->List Nat:=kk [[6],[10,11,12,13],[],[0],[],[19,20,21],[7,22,23,24,25],[8,9,26,27,28,29],[],[31]]
def qgt:Cd Tryz.prog qco Tryz.f96:=by refine⟨?_,?_⟩;rotate_left;(cbv;try rfl)
def qim:IR:=qgt.c
theorem qgg:FnIs Tryz.prog 96 32 [.t 6] qim:=fi qco Tryz.func96 Tryz.call96
def qhv:Nat->List Nat:=kk [[0,2],([1002500,1]++rg 3 15)]
def qnx:List (Nat×List Nat):=(og 0 10++[(11,[]),(12,[]),(10,[12]),(13,[]),(14,[]),(15,[])])
def qwb:Cd Tryz.prog qhv Tryz.f25:=by refine⟨?_,?_⟩;rotate_left;(cbv;try rfl)
def qzabs:IR:=qwb.c
theorem qtb:FnIs Tryz.prog 25 18 [.t 2] qzabs:=fi qhv Tryz.func25 Tryz.call25
def qzacn:Nat->List Nat:=kk [[],[5,6],[8],[0,9],[12],([1019600,2,4]++rg 13 11),[24]]
def qbn:List (Nat×List Nat):=[(0,[]),(2,[]),(6,[]),(1,[]),(3,[]),(4,[]),(5,[]),(7,[4,5]),(8,[4,5]),(9,[]),(10,[]),(11,[])]
def qzaub:Cd Tryz.prog qzacn Tryz.f196:=by refine⟨?_,?_⟩;rotate_left;(cbv;try rfl)
def word_Rows:IR:=qzaub.c
theorem qzacw:FnIs Tryz.prog 196 25 [.c 2 true 8] word_Rows:=fi qzacn Tryz.func196 Tryz.call196
def qzajl:Nat->List Nat:=kk [[3],[1024300,0,1,4,5,6,7]]
def qzaaa:List (Nat×List Nat):=[(0,[]),(2,[]),(1,[2]),(3,[]),(4,[])]
def qzaud:IR:=
 (sr [o 3 (.mv (.c .ff))] [3] (.seq (.draw [m 4 0,o 5 (f 244 [(t 4)]),l1 6 1,o 7 (.bin .gt (t 5) (t 6)),m 3 7] [[],[0],[],[1,2],[3,1,0,1,2,3]] [1024300,0,1,4,5,6,7]) .ret))
theorem qzaki:FnIs Tryz.prog 243 8 [.t 3] qzaud:=fi qzajl Tryz.func243 Tryz.call243
def qzaji:Nat->List Nat:=kk [[0,1,5],([2,3]++rg 6 5)]
def qzats:IR:=
 (sr [o 2 (.box (t 0)),o 3 (.box (t 1)),o 4 (.alloc z0),o 5 (.mv (.c .ff))] [0,1,5] (sr [o 6 (.load true 18 (t 2)),o 7 (.mkF (.func 75) [] [(t 3)]),o 8 (f 47 [(t 6),(t 7)]),ex 9 8 0,ex 10 8 1,u (.store 18 (t 4) (t 9)),m 5 10] ([2,3]++rg 6 5) .ret))
theorem qub:FnIs Tryz.prog 34 11 [.c 4 true 18,.t 5] qzats:=fi qzaji Tryz.func34 Tryz.call34
def qzant:Nat->List Nat:=kk [[0,1,5],([2,3]++rg 6 5)]
def write_Give:IR:=
 (sr [o 2 (.box (t 0)),o 3 (.box (t 1)),o 4 (.alloc z0),o 5 (.mv (.c .ff))] [0,1,5] (sr [o 6 (.load true 18 (t 2)),o 7 (.mkF (.func 73) [] [(t 3)]),o 8 (f 47 [(t 6),(t 7)]),ex 9 8 0,ex 10 8 1,u (.store 18 (t 4) (t 9)),m 5 10] ([2,3]++rg 6 5) .ret))
theorem qyf:FnIs Tryz.prog 33 11 [.c 4 true 18,.t 5] write_Give:=fi qzant Tryz.func33 Tryz.call33
def qzaxn:Nat->List Nat:=kk [[4],([0,1]++rg 6 7),[5,13,14]]
def qzayh:IR:=
 (sr [o 4 (.mv (.c (.i .u32 (.l 0))))] [4] (sr [m 8 0,m 9 1,o 10 (f 170 [(t 8),(t 9),(z 4)]),m 7 10,ex 11 7 0,ex 12 7 1,m 5 11,m 6 12] ([0,1]++rg 6 7) (sr [m 13 5,o 14 (.cv .u32 (t 13)),m 4 14] [5,13,14] .ret)))
theorem qzaxq:FnIs Tryz.prog 177 15 [.t 4] qzayh:=fi qzaxn Tryz.func177 Tryz.call177
def qpd:Nat->List Nat:=kk [[4],([1022400,0,1]++rg 5 16)]
def qup:List (Nat×List Nat):=(og 0 4++[(5,[]),(7,[]),(8,[]),(4,[]),(6,[])]++og 9 10)
def qzahl:Cd Tryz.prog qpd Tryz.f224:=by refine⟨?_,?_⟩;rotate_left;(cbv;try rfl)
def qzaof:IR:=qzahl.c
theorem qzady:FnIs Tryz.prog 224 21 [.t 4] qzaof:=fi qpd Tryz.func224 Tryz.call224
def qzahf:Nat->List Nat:=kk [[0,5],([1,2]++rg 6 5)]
def qzaqp:IR:=
 (sr [o 2 (.box (t 0)),o 4 (.alloc z3),o 5 (.mv (.c .ff))] [0,5] (sr [o 6 (.load true 11 (t 2)),m 7 1,o 8 (f 139 [(t 6),(t 7),(.c (.fn (.func 140) [] []))]),ex 9 8 0,ex 10 8 1,u (.store 11 (t 4) (t 9)),m 5 10] ([1,2]++rg 6 5) .ret))
theorem qra:FnIs Tryz.prog 76 11 [.c 4 true 11,.t 5] qzaqp:=fi qzahf Tryz.func76 Tryz.call76
def qjn:Nat->List Nat:=kk [[0,2],[],[],[5,6,7,8],[10,11],(rg 12 8),[3,20]]
def qor:List Nat:=([0,2]++rg 5 16)
def qzf:Cd Tryz.prog qjn Tryz.f56:=by refine⟨?_,?_⟩;rotate_left;(cbv;try rfl)
def qzaem:IR:=qzf.c
theorem qvj:FnIs Tryz.prog 56 21 [.t 2] qzaem:=fi qjn Tryz.func56 Tryz.call56
def qxn:Nat->List Nat:=kk [[0],[],[7,8,9],[11],[],[15],([5]++rg 16 6),[23],[1,24],[26],[28,29],[3,6,31,32]]
def qzaba:List Nat:=([0]++rg 4 8++rg 14 12++rg 27 6)
def qzaqk:Cd Tryz.prog qxn Tryz.f80:=by refine⟨?_,?_⟩;rotate_left;(cbv;try rfl)
def turn_Right:IR:=qzaqk.c
theorem qyi:FnIs Tryz.prog 80 33 [.t 2] turn_Right:=fi qxn Tryz.func80 Tryz.call80
def qzahh:Nat->List Nat:=kk [[4],([0,1]++rg 6 7),[5,13,14]]
def qzask:IR:=
 (sr [o 4 (.mv (.c (.i .u32 (.l 0))))] [4] (sr [m 8 0,m 9 1,o 10 (f 256 [(t 8),(t 9),(z 4)]),m 7 10,ex 11 7 0,ex 12 7 1,m 5 11,m 6 12] ([0,1]++rg 6 7) (sr [m 13 5,o 14 (.cv .u32 (t 13)),m 4 14] [5,13,14] .ret)))
theorem qrd:FnIs Tryz.prog 215 15 [.t 4] qzask:=fi qzahh Tryz.func215 Tryz.call215
def qjr:Nat->List Nat:=kk [[6,7],(rg 10 9),[],(rg 20 11),[],[],[],[32,33],[35,36],(rg 37 10),[8,47]]
def qzk:Cd Tryz.prog qjr Tryz.f170:=by refine⟨?_,?_⟩;rotate_left;(cbv;try rfl)
def qzaer:IR:=qzk.c
theorem qka:FnIs Tryz.prog 170 48 [.t 6,.t 7] qzaer:=fi qjr Tryz.func170 Tryz.call170
def qqh:Nat->List Nat:=kk [[3],([1007300,1]++rg 4 12),[0,16,17],[18]]
def qky:List (Nat×List Nat):=(og 0 14)
def qzaiu:Cd Tryz.prog qqh Tryz.f73:=by refine⟨?_,?_⟩;rotate_left;(cbv;try rfl)
def qzapr:IR:=qzaiu.c
theorem qqt:FnIs Tryz.prog 73 19 [.t 3] qzapr:=fi qqh Tryz.func73 Tryz.call73
def qpb:Nat->List Nat:=kk [[4,5],[],[9],([3]++rg 10 8),[19]]
def qck:List Nat:=([2,3,4,5]++rg 8 12)
def qzafp:Cd Tryz.prog qpb Tryz.f246:=by refine⟨?_,?_⟩;rotate_left;(cbv;try rfl)
def qzame:IR:=qzafp.c
theorem qda:FnIs Tryz.prog 246 20 [] qzame:=fi qpb Tryz.func246 Tryz.call246
def qzarw:Nat->List Nat:=kk [[0],[1,3,4,5],[6]]
def turn_Many:IR:=
 (sr [o 1 (.box (t 0)),o 2 (.alloc [(.i .i64 (.l 0))])] [0] (sr [o 3 (.load true 9 (t 1)),o 4 (.mkF (.func 149) [] [(t 2)]),o 5 (f 147 [(t 3),(t 4)])] [1,3,4,5] (sr [l1 6 2,u (.store 1 (t 2) (t 6))] [6] .ret)))
theorem qzasy:FnIs Tryz.prog 84 7 [.c 2 false 1] turn_Many:=fi qzarw Tryz.func84 Tryz.call84
def qxp:Nat->List Nat:=kk [[0],[1,5],[],[10,11],[4,12,13,14,15],[16],[17]]
def qzabb:List Nat:=([0,1,3,4,5]++rg 9 9)
def qzaqn:Cd Tryz.prog qxp Tryz.f192:=by refine⟨?_,?_⟩;rotate_left;(cbv;try rfl)
def table_Full:IR:=qzaqn.c
theorem qyk:FnIs Tryz.prog 192 18 [.t 2] table_Full:=fi qxp Tryz.func192 Tryz.call192
def qzacm:Nat->List Nat:=kk [[],(rg 2 5),[1003100,1,7,8,9]]
def qzagr:List (Nat×List Nat):=[(0,[]),(1,[0]),(2,[]),(3,[])]
def qzatw:Cd Tryz.prog qzacm Tryz.f31:=by refine⟨?_,?_⟩;rotate_left;(cbv;try rfl)
def write_New:IR:=qzatw.c
theorem qzasr:FnIs Tryz.prog 31 10 [.c 0 true 18] write_New:=fi qzacm Tryz.func31 Tryz.call31
def qhs:Nat->List Nat:=kk [[0,2],(rg 3 49),[],(rg 53 18),[],([1]++rg 72 14)]
def qvx:Cd Tryz.prog qhs Tryz.f59:=by refine⟨?_,?_⟩;rotate_left;(cbv;try rfl)
def qzabm:IR:=qvx.c
theorem qsv:FnIs Tryz.prog 59 86 [.t 2] qzabm:=fi qhs Tryz.func59 Tryz.call59
def qjq:Nat->List Nat:=kk [[0,1,4],([2,3]++rg 5 77)]
def qzj:Cd Tryz.prog qjq Tryz.f126:=by refine⟨?_,?_⟩;rotate_left;(cbv;try rfl)
def qzaeq:IR:=qzj.c
theorem qvl:FnIs Tryz.prog 126 82 [.t 4] qzaeq:=fi qjq Tryz.func126 Tryz.call126
def qtr:Nat->List Nat:=kk [[4,5],[6,7],([1]++rg 8 6),[0,14,15,16,17]]
def qzamf:Cd Tryz.prog qtr Tryz.f240:=by refine⟨?_,?_⟩;rotate_left;(cbv;try rfl)
def qzatz:IR:=qzamf.c
theorem qzakh:FnIs Tryz.prog 240 18 [.t 4,.t 5] qzatz:=fi qtr Tryz.func240 Tryz.call240
def qqp:Nat->List Nat:=kk [[0,4],[5,6,7],([2]++rg 9 8),[1,17]]
def qzakc:Cd Tryz.prog qqp Tryz.f208:=by refine⟨?_,?_⟩;rotate_left;(cbv;try rfl)
def qzasj:IR:=qzakc.c
theorem qrc:FnIs Tryz.prog 208 18 [.t 4] qzasj:=fi qqp Tryz.func208 Tryz.call208
def qtt:Nat->List Nat:=kk [[0,1,4],(rg 6 40),([2,3,5]++rg 46 36)]
def qzamr:Cd Tryz.prog qtt Tryz.f97:=by refine⟨?_,?_⟩;rotate_left;(cbv;try rfl)
def qzaus:IR:=qzamr.c
theorem qzakl:FnIs Tryz.prog 97 82 [.t 4] qzaus:=fi qtt Tryz.func97 Tryz.call97
end I
end Cz
