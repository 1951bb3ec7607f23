/- Calls and what they give, as data. No condition. -/
import Derived.Test.YtkcfpgaepmllhaaGreatDoorVao
namespace Go.Proofs.YtkcfpgaepmllhaaGreatDoor
namespace Memo
set_option maxRecDepth 100000
abbrev i (z : Int) : D:=iv z
abbrev u (z : Int) : D:=.v (.int .u8 z)
abbrev T : D:=bv true
abbrev F : D:=bv false
abbrev L:=List Known
noncomputable def d0 : D:=.lptr [F,i 0,i 1,.clo 270 [],.clo 271 []]
noncomputable def d1 : D:=.clo 252 [.lptr [i 1],.lptr [i 3],d0]
noncomputable def w0 : List D:=[i 0,i 0,i 1,i 4,i 0]
noncomputable def w1 : List D:=[i 0,i 1,i 2,i 5,i 1]
noncomputable def w2 : List D:=[i 0,i 2,i 3,i 6,i 2]
noncomputable def d2 : D:=.clo 252 [.lptr [i 2],.lptr [i 3],d0]
noncomputable def w3 : List D:=[i 1,i 0,i 1,i 6,i 1]
noncomputable def w4 : List D:=[i 1,i 1,i 2,i 4,i 2]
noncomputable def w5 : List D:=[i 1,i 2,i 3,i 5,i 0]
noncomputable def d3 : D:=.list [w0,w1,w2,w3,w4,w5]
noncomputable def d4 : D:=.clo 252 [.lptr [i 3],.lptr [i 3],d0]
noncomputable def w6 : List D:=[i 2,i 0,i 1,i 5,i 2]
noncomputable def w7 : List D:=[i 2,i 1,i 2,i 6,i 0]
noncomputable def w8 : List D:=[i 2,i 2,i 3,i 4,i 1]
noncomputable def d5 : D:=.list [w0,w1,w2,w3,w4,w5,w6,w7,w8]
noncomputable def d6 : D:=.clo 252 [.lptr [i 1],.lptr [i 5],d0]
noncomputable def w9 : List D:=[i 0,i 0,i 1,i 6,i 0]
noncomputable def w10 : List D:=[i 0,i 1,i 2,i 7,i 1]
noncomputable def w11 : List D:=[i 0,i 2,i 3,i 8,i 2]
noncomputable def w12 : List D:=[i 0,i 3,i 4,i 9,i 3]
noncomputable def w13 : List D:=[i 0,i 4,i 5,i 10,i 4]
noncomputable def d7 : D:=.list [w9,w10,w11,w12,w13]
noncomputable def d8 : D:=.clo 252 [.lptr [i 2],.lptr [i 5],d0]
noncomputable def w14 : List D:=[i 1,i 0,i 1,i 10,i 1]
noncomputable def w15 : List D:=[i 1,i 1,i 2,i 6,i 2]
noncomputable def w16 : List D:=[i 1,i 2,i 3,i 7,i 3]
noncomputable def w17 : List D:=[i 1,i 3,i 4,i 8,i 4]
noncomputable def w18 : List D:=[i 1,i 4,i 5,i 9,i 0]
noncomputable def d9 : D:=.list [w9,w10,w11,w12,w13,w14,w15,w16,w17,w18]
noncomputable def d10 : D:=.clo 252 [.lptr [i 3],.lptr [i 5],d0]
noncomputable def w19 : List D:=[i 2,i 0,i 1,i 9,i 2]
noncomputable def w20 : List D:=[i 2,i 1,i 2,i 10,i 3]
noncomputable def w21 : List D:=[i 2,i 2,i 3,i 6,i 4]
noncomputable def w22 : List D:=[i 2,i 3,i 4,i 7,i 0]
noncomputable def w23 : List D:=[i 2,i 4,i 5,i 8,i 1]
noncomputable def d11 : D:=.list [w9,w10,w11,w12,w13,w14,w15,w16,w17,w18,w19,w20,w21,w22,w23]
noncomputable def d12 : D:=.clo 252 [.lptr [i 4],.lptr [i 5],d0]
noncomputable def w24 : List D:=[i 3,i 0,i 1,i 8,i 3]
noncomputable def w25 : List D:=[i 3,i 1,i 2,i 9,i 4]
noncomputable def w26 : List D:=[i 3,i 2,i 3,i 10,i 0]
noncomputable def w27 : List D:=[i 3,i 3,i 4,i 6,i 1]
noncomputable def w28 : List D:=[i 3,i 4,i 5,i 7,i 2]
noncomputable def d13 : D:=.list [w9,w10,w11,w12,w13,w14,w15,w16,w17,w18,w19,w20,w21,w22,w23,w24,w25,w26,w27,w28]
noncomputable def d14 : D:=.clo 252 [.lptr [i 5],.lptr [i 5],d0]
noncomputable def w29 : List D:=[i 4,i 0,i 1,i 7,i 4]
noncomputable def w30 : List D:=[i 4,i 1,i 2,i 8,i 0]
noncomputable def w31 : List D:=[i 4,i 2,i 3,i 9,i 1]
noncomputable def w32 : List D:=[i 4,i 3,i 4,i 10,i 2]
noncomputable def w33 : List D:=[i 4,i 4,i 5,i 6,i 3]
noncomputable def d15 : D:=.list [w9,w10,w11,w12,w13,w14,w15,w16,w17,w18,w19,w20,w21,w22,w23,w24,w25,w26,w27,w28,w29,w30,w31,w32,w33]
noncomputable def d16 : D:=.lptr [T,i 1,i 1,.clo 272 [],.clo 271 []]
noncomputable def d17 : D:=.clo 252 [.lptr [i 1],.lptr [i 2],d16]
noncomputable def w34 : List D:=[i 0,i 0,i 1,i 3,i 0]
noncomputable def w35 : List D:=[i 0,i 1,i 2,i 4,i 1]
noncomputable def d18 : D:=.clo 252 [.lptr [i 1],.lptr [i 4],d16]
noncomputable def w36 : List D:=[i 0,i 0,i 1,i 5,i 0]
noncomputable def w37 : List D:=[i 0,i 1,i 2,i 6,i 1]
noncomputable def w38 : List D:=[i 0,i 2,i 3,i 7,i 2]
noncomputable def w39 : List D:=[i 0,i 3,i 4,i 8,i 3]
noncomputable def d19 : D:=.clo 252 [.lptr [i 2],.lptr [i 4],d16]
noncomputable def w40 : List D:=[i 1,i 0,i 1,i 8,i 1]
noncomputable def w41 : List D:=[i 1,i 1,i 2,i 5,i 2]
noncomputable def w42 : List D:=[i 1,i 2,i 3,i 6,i 3]
noncomputable def w43 : List D:=[i 1,i 3,i 4,i 7,i 0]
noncomputable def d20 : D:=.list [w36,w37,w38,w39,w40,w41,w42,w43]
noncomputable def d21 : D:=.clo 252 [.lptr [i 3],.lptr [i 4],d16]
noncomputable def w44 : List D:=[i 2,i 0,i 1,i 6,i 2]
noncomputable def w45 : List D:=[i 2,i 1,i 2,i 7,i 3]
noncomputable def w46 : List D:=[i 2,i 2,i 3,i 8,i 0]
noncomputable def w47 : List D:=[i 2,i 3,i 4,i 5,i 1]
noncomputable def d22 : D:=.list [w36,w37,w38,w39,w40,w41,w42,w43,w44,w45,w46,w47]
noncomputable def d23 : D:=.lptr [T,i 0,i 2,.clo 270 [],.clo 273 []]
noncomputable def d24 : D:=.clo 252 [.lptr [i 1],.lptr [i 2],d23]
noncomputable def w48 : List D:=[i 0,i 1,i 2,i 4,i 0]
noncomputable def d25 : D:=.clo 252 [.lptr [i 2],.lptr [i 2],d23]
noncomputable def w49 : List D:=[i 1,i 0,i 1,i 4,i 1]
noncomputable def w50 : List D:=[i 1,i 1,i 2,i 3,i 1]
noncomputable def d26 : D:=.clo 252 [.lptr [i 1],.lptr [i 4],d23]
noncomputable def w51 : List D:=[i 0,i 2,i 3,i 7,i 3]
noncomputable def w52 : List D:=[i 0,i 3,i 4,i 8,i 0]
noncomputable def d27 : D:=.clo 252 [.lptr [i 2],.lptr [i 4],d23]
noncomputable def w53 : List D:=[i 1,i 2,i 3,i 6,i 0]
noncomputable def w54 : List D:=[i 1,i 3,i 4,i 7,i 1]
noncomputable def d28 : D:=.list [w36,w37,w51,w52,w40,w41,w53,w54]
noncomputable def d29 : D:=.clo 252 [.lptr [i 3],.lptr [i 4],d23]
noncomputable def w55 : List D:=[i 2,i 0,i 1,i 7,i 2]
noncomputable def w56 : List D:=[i 2,i 1,i 2,i 8,i 3]
noncomputable def w57 : List D:=[i 2,i 2,i 3,i 5,i 1]
noncomputable def w58 : List D:=[i 2,i 3,i 4,i 6,i 2]
noncomputable def d30 : D:=.list [w36,w37,w51,w52,w40,w41,w53,w54,w55,w56,w57,w58]
noncomputable def d31 : D:=.clo 252 [.lptr [i 4],.lptr [i 4],d23]
noncomputable def w59 : List D:=[i 3,i 0,i 1,i 6,i 3]
noncomputable def w60 : List D:=[i 3,i 1,i 2,i 7,i 0]
noncomputable def w61 : List D:=[i 3,i 2,i 3,i 8,i 2]
noncomputable def w62 : List D:=[i 3,i 3,i 4,i 5,i 3]
noncomputable def d32 : D:=.list [w36,w37,w51,w52,w40,w41,w53,w54,w55,w56,w57,w58,w59,w60,w61,w62]
noncomputable def d33 : D:=.agg [i 3,i 1,i 3,i 1,i 2,.list [w0,w1,w2]]
noncomputable def d34 : D:=.agg [i 3,i 2,i 3,i 1,i 2,d3]
noncomputable def d35 : D:=.agg [i 3,i 3,i 3,i 1,i 2,d5]
noncomputable def d36 : D:=.agg [i 5,i 1,i 5,i 1,i 2,d7]
noncomputable def d37 : D:=.agg [i 5,i 2,i 5,i 1,i 2,d9]
noncomputable def d38 : D:=.agg [i 5,i 3,i 5,i 1,i 2,d11]
noncomputable def d39 : D:=.agg [i 5,i 4,i 5,i 1,i 2,d13]
noncomputable def d40 : D:=.agg [i 5,i 5,i 5,i 1,i 2,d15]
noncomputable def d41 : D:=.agg [i 2,i 1,i 2,i 1,i 2,.list [w34,w35]]
noncomputable def d42 : D:=.agg [i 4,i 1,i 4,i 1,i 2,.list [w36,w37,w38,w39]]
noncomputable def d43 : D:=.agg [i 4,i 2,i 4,i 1,i 2,d20]
noncomputable def d44 : D:=.agg [i 4,i 3,i 4,i 1,i 2,d22]
noncomputable def d45 : D:=.agg [i 2,i 1,i 2,i 2,i 2,.list [w34,w48]]
noncomputable def d46 : D:=.agg [i 2,i 2,i 2,i 2,i 2,.list [w34,w48,w49,w50]]
noncomputable def d47 : D:=.agg [i 4,i 1,i 4,i 2,i 2,.list [w36,w37,w51,w52]]
noncomputable def d48 : D:=.agg [i 4,i 2,i 4,i 2,i 2,d28]
noncomputable def d49 : D:=.agg [i 4,i 3,i 4,i 2,i 2,d30]
noncomputable def d50 : D:=.agg [i 4,i 4,i 4,i 2,i 2,d32]
noncomputable def w63 : List D:=[i 0,i 0,i 11,i 6,i 0]
noncomputable def d51 : D:=.list [w63,w10,w11,w12,w13]
noncomputable def d52 : D:=.agg [i 5,i 1,i 5,i 1,i 2,d51]
noncomputable def w64 : List D:=[i 1,i 2,i 11,i 7,i 3]
noncomputable def d53 : D:=.list [w63,w10,w11,w12,w13,w14,w15,w64,w17,w18]
noncomputable def d54 : D:=.agg [i 5,i 2,i 5,i 1,i 2,d53]
noncomputable def w65 : List D:=[i 2,i 4,i 11,i 8,i 1]
noncomputable def d55 : D:=.list [w63,w10,w11,w12,w13,w14,w15,w64,w17,w18,w19,w20,w21,w22,w65]
noncomputable def d56 : D:=.agg [i 5,i 3,i 5,i 1,i 2,d55]
noncomputable def w66 : List D:=[i 3,i 1,i 11,i 9,i 4]
noncomputable def d57 : D:=.list [w63,w10,w11,w12,w13,w14,w15,w64,w17,w18,w19,w20,w21,w22,w65,w24,w66,w26,w27,w28]
noncomputable def d58 : D:=.agg [i 5,i 4,i 5,i 1,i 2,d57]
noncomputable def w67 : List D:=[i 4,i 3,i 11,i 10,i 2]
noncomputable def d59 : D:=.list [w63,w10,w11,w12,w13,w14,w15,w64,w17,w18,w19,w20,w21,w22,w65,w24,w66,w26,w27,w28,w29,w30,w31,w67,w33]
noncomputable def d60 : D:=.agg [i 5,i 5,i 5,i 1,i 2,d59]
noncomputable def w68 : List D:=[i 0,i 0,i 4,i 1,i 0]
noncomputable def w69 : List D:=[i 0,i 1,i 2,i 3,i 0]
noncomputable def d61 : D:=.agg [i 2,i 1,i 3,i 2,i 1,.list [w68,w69]]
noncomputable def w70 : List D:=[i 1,i 0,i 4,i 2,i 1]
noncomputable def w71 : List D:=[i 1,i 1,i 3,i 1,i 1]
noncomputable def d62 : D:=.agg [i 2,i 2,i 3,i 2,i 1,.list [w68,w69,w70,w71]]
noncomputable def w72 : List D:=[i 2,i 0,i 4,i 3,i 2]
noncomputable def w73 : List D:=[i 2,i 1,i 1,i 2,i 2]
noncomputable def d63 : D:=.list [w68,w69,w70,w71,w72,w73]
noncomputable def d64 : D:=.agg [i 2,i 3,i 3,i 2,i 1,d63]
noncomputable def w74 : List D:=[i 0,i 0,i 6,i 1,i 0]
noncomputable def w75 : List D:=[i 0,i 1,i 2,i 5,i 0]
noncomputable def w76 : List D:=[i 0,i 2,i 3,i 4,i 0]
noncomputable def d65 : D:=.agg [i 3,i 1,i 5,i 3,i 1,.list [w74,w75,w76]]
noncomputable def w77 : List D:=[i 1,i 0,i 6,i 2,i 1]
noncomputable def w78 : List D:=[i 1,i 2,i 4,i 5,i 1]
noncomputable def d66 : D:=.list [w74,w75,w76,w77,w71,w78]
noncomputable def d67 : D:=.agg [i 3,i 2,i 5,i 3,i 1,d66]
noncomputable def w79 : List D:=[i 2,i 0,i 6,i 3,i 2]
noncomputable def w80 : List D:=[i 2,i 1,i 4,i 2,i 2]
noncomputable def w81 : List D:=[i 2,i 2,i 5,i 1,i 2]
noncomputable def d68 : D:=.list [w74,w75,w76,w77,w71,w78,w79,w80,w81]
noncomputable def d69 : D:=.agg [i 3,i 3,i 5,i 3,i 1,d68]
noncomputable def w82 : List D:=[i 3,i 0,i 6,i 4,i 3]
noncomputable def w83 : List D:=[i 3,i 1,i 5,i 3,i 3]
noncomputable def w84 : List D:=[i 3,i 2,i 1,i 2,i 3]
noncomputable def d70 : D:=.list [w74,w75,w76,w77,w71,w78,w79,w80,w81,w82,w83,w84]
noncomputable def d71 : D:=.agg [i 3,i 4,i 5,i 3,i 1,d70]
noncomputable def w85 : List D:=[i 4,i 0,i 6,i 5,i 4]
noncomputable def w86 : List D:=[i 4,i 1,i 1,i 4,i 4]
noncomputable def w87 : List D:=[i 4,i 2,i 2,i 3,i 4]
noncomputable def d72 : D:=.list [w74,w75,w76,w77,w71,w78,w79,w80,w81,w82,w83,w84,w85,w86,w87]
noncomputable def d73 : D:=.agg [i 3,i 5,i 5,i 3,i 1,d72]
noncomputable def w88 : List D:=[i 0,i 0,i 8,i 1,i 0]
noncomputable def w89 : List D:=[i 0,i 1,i 2,i 4,i 4]
noncomputable def w90 : List D:=[i 0,i 2,i 3,i 7,i 1]
noncomputable def w91 : List D:=[i 0,i 3,i 5,i 6,i 2]
noncomputable def d74 : D:=.agg [i 4,i 1,i 7,i 1,i 1,.list [w88,w89,w90,w91]]
noncomputable def w92 : List D:=[i 1,i 0,i 8,i 2,i 1]
noncomputable def w93 : List D:=[i 1,i 1,i 3,i 5,i 5]
noncomputable def w94 : List D:=[i 1,i 2,i 4,i 1,i 2]
noncomputable def w95 : List D:=[i 1,i 3,i 6,i 7,i 3]
noncomputable def d75 : D:=.list [w88,w89,w90,w91,w92,w93,w94,w95]
noncomputable def d76 : D:=.agg [i 4,i 2,i 7,i 1,i 1,d75]
noncomputable def w96 : List D:=[i 2,i 0,i 8,i 3,i 2]
noncomputable def w97 : List D:=[i 2,i 1,i 4,i 6,i 6]
noncomputable def w98 : List D:=[i 2,i 2,i 5,i 2,i 3]
noncomputable def w99 : List D:=[i 2,i 3,i 7,i 1,i 4]
noncomputable def d77 : D:=.list [w88,w89,w90,w91,w92,w93,w94,w95,w96,w97,w98,w99]
noncomputable def d78 : D:=.agg [i 4,i 3,i 7,i 1,i 1,d77]
noncomputable def w100 : List D:=[i 3,i 0,i 8,i 4,i 3]
noncomputable def w101 : List D:=[i 3,i 1,i 5,i 7,i 0]
noncomputable def w102 : List D:=[i 3,i 2,i 6,i 3,i 4]
noncomputable def w103 : List D:=[i 3,i 3,i 1,i 2,i 5]
noncomputable def d79 : D:=.list [w88,w89,w90,w91,w92,w93,w94,w95,w96,w97,w98,w99,w100,w101,w102,w103]
noncomputable def d80 : D:=.agg [i 4,i 4,i 7,i 1,i 1,d79]
noncomputable def w104 : List D:=[i 4,i 0,i 8,i 5,i 4]
noncomputable def w105 : List D:=[i 4,i 1,i 6,i 1,i 1]
noncomputable def w106 : List D:=[i 4,i 2,i 7,i 4,i 5]
noncomputable def w107 : List D:=[i 4,i 3,i 2,i 3,i 6]
noncomputable def d81 : D:=.list [w88,w89,w90,w91,w92,w93,w94,w95,w96,w97,w98,w99,w100,w101,w102,w103,w104,w105,w106,w107]
noncomputable def d82 : D:=.agg [i 4,i 5,i 7,i 1,i 1,d81]
noncomputable def w108 : List D:=[i 5,i 0,i 8,i 6,i 5]
noncomputable def w109 : List D:=[i 5,i 1,i 7,i 2,i 2]
noncomputable def w110 : List D:=[i 5,i 2,i 1,i 5,i 6]
noncomputable def w111 : List D:=[i 5,i 3,i 3,i 4,i 0]
noncomputable def d83 : D:=.list [w88,w89,w90,w91,w92,w93,w94,w95,w96,w97,w98,w99,w100,w101,w102,w103,w104,w105,w106,w107,w108,w109,w110,w111]
noncomputable def d84 : D:=.agg [i 4,i 6,i 7,i 1,i 1,d83]
noncomputable def w112 : List D:=[i 6,i 0,i 8,i 7,i 6]
noncomputable def w113 : List D:=[i 6,i 1,i 1,i 3,i 3]
noncomputable def w114 : List D:=[i 6,i 2,i 2,i 6,i 0]
noncomputable def w115 : List D:=[i 6,i 3,i 4,i 5,i 1]
noncomputable def d85 : D:=.list [w88,w89,w90,w91,w92,w93,w94,w95,w96,w97,w98,w99,w100,w101,w102,w103,w104,w105,w106,w107,w108,w109,w110,w111,w112,w113,w114,w115]
noncomputable def d86 : D:=.agg [i 4,i 7,i 7,i 1,i 1,d85]
noncomputable def w116 : List D:=[i 0,i 0,i 10,i 1,i 0]
noncomputable def w117 : List D:=[i 0,i 1,i 2,i 9,i 0]
noncomputable def w118 : List D:=[i 0,i 2,i 3,i 8,i 0]
noncomputable def w119 : List D:=[i 0,i 3,i 4,i 7,i 0]
noncomputable def w120 : List D:=[i 0,i 4,i 5,i 6,i 0]
noncomputable def d87 : D:=.list [w116,w117,w118,w119,w120]
noncomputable def d88 : D:=.agg [i 5,i 1,i 9,i 5,i 1,d87]
noncomputable def w121 : List D:=[i 1,i 0,i 10,i 2,i 1]
noncomputable def w122 : List D:=[i 1,i 2,i 4,i 9,i 1]
noncomputable def w123 : List D:=[i 1,i 3,i 5,i 8,i 1]
noncomputable def w124 : List D:=[i 1,i 4,i 6,i 7,i 1]
noncomputable def d89 : D:=.list [w116,w117,w118,w119,w120,w121,w71,w122,w123,w124]
noncomputable def d90 : D:=.agg [i 5,i 2,i 9,i 5,i 1,d89]
noncomputable def w125 : List D:=[i 2,i 0,i 10,i 3,i 2]
noncomputable def w126 : List D:=[i 2,i 3,i 6,i 9,i 2]
noncomputable def w127 : List D:=[i 2,i 4,i 7,i 8,i 2]
noncomputable def d91 : D:=.list [w116,w117,w118,w119,w120,w121,w71,w122,w123,w124,w125,w80,w81,w126,w127]
noncomputable def d92 : D:=.agg [i 5,i 3,i 9,i 5,i 1,d91]
noncomputable def w128 : List D:=[i 3,i 0,i 10,i 4,i 3]
noncomputable def w129 : List D:=[i 3,i 2,i 6,i 2,i 3]
noncomputable def w130 : List D:=[i 3,i 3,i 7,i 1,i 3]
noncomputable def w131 : List D:=[i 3,i 4,i 8,i 9,i 3]
noncomputable def d93 : D:=.list [w116,w117,w118,w119,w120,w121,w71,w122,w123,w124,w125,w80,w81,w126,w127,w128,w83,w129,w130,w131]
noncomputable def d94 : D:=.agg [i 5,i 4,i 9,i 5,i 1,d93]
noncomputable def w132 : List D:=[i 4,i 0,i 10,i 5,i 4]
noncomputable def w133 : List D:=[i 4,i 1,i 6,i 4,i 4]
noncomputable def w134 : List D:=[i 4,i 2,i 7,i 3,i 4]
noncomputable def w135 : List D:=[i 4,i 3,i 8,i 2,i 4]
noncomputable def w136 : List D:=[i 4,i 4,i 9,i 1,i 4]
noncomputable def d95 : D:=.list [w116,w117,w118,w119,w120,w121,w71,w122,w123,w124,w125,w80,w81,w126,w127,w128,w83,w129,w130,w131,w132,w133,w134,w135,w136]
noncomputable def d96 : D:=.agg [i 5,i 5,i 9,i 5,i 1,d95]
noncomputable def w137 : List D:=[i 5,i 0,i 10,i 6,i 5]
noncomputable def w138 : List D:=[i 5,i 1,i 7,i 5,i 5]
noncomputable def w139 : List D:=[i 5,i 2,i 8,i 4,i 5]
noncomputable def w140 : List D:=[i 5,i 3,i 9,i 3,i 5]
noncomputable def w141 : List D:=[i 5,i 4,i 1,i 2,i 5]
noncomputable def d97 : D:=.list [w116,w117,w118,w119,w120,w121,w71,w122,w123,w124,w125,w80,w81,w126,w127,w128,w83,w129,w130,w131,w132,w133,w134,w135,w136,w137,w138,w139,w140,w141]
noncomputable def d98 : D:=.agg [i 5,i 6,i 9,i 5,i 1,d97]
noncomputable def w142 : List D:=[i 6,i 0,i 10,i 7,i 6]
noncomputable def w143 : List D:=[i 6,i 1,i 8,i 6,i 6]
noncomputable def w144 : List D:=[i 6,i 2,i 9,i 5,i 6]
noncomputable def w145 : List D:=[i 6,i 3,i 1,i 4,i 6]
noncomputable def w146 : List D:=[i 6,i 4,i 2,i 3,i 6]
noncomputable def d99 : D:=.list [w116,w117,w118,w119,w120,w121,w71,w122,w123,w124,w125,w80,w81,w126,w127,w128,w83,w129,w130,w131,w132,w133,w134,w135,w136,w137,w138,w139,w140,w141,w142,w143,w144,w145,w146]
noncomputable def d100 : D:=.agg [i 5,i 7,i 9,i 5,i 1,d99]
noncomputable def w147 : List D:=[i 7,i 0,i 10,i 8,i 7]
noncomputable def w148 : List D:=[i 7,i 1,i 9,i 7,i 7]
noncomputable def w149 : List D:=[i 7,i 2,i 1,i 6,i 7]
noncomputable def w150 : List D:=[i 7,i 3,i 2,i 5,i 7]
noncomputable def w151 : List D:=[i 7,i 4,i 3,i 4,i 7]
noncomputable def d101 : D:=.list [w116,w117,w118,w119,w120,w121,w71,w122,w123,w124,w125,w80,w81,w126,w127,w128,w83,w129,w130,w131,w132,w133,w134,w135,w136,w137,w138,w139,w140,w141,w142,w143,w144,w145,w146,w147,w148,w149,w150,w151]
noncomputable def d102 : D:=.agg [i 5,i 8,i 9,i 5,i 1,d101]
noncomputable def w152 : List D:=[i 8,i 0,i 10,i 9,i 8]
noncomputable def w153 : List D:=[i 8,i 1,i 1,i 8,i 8]
noncomputable def w154 : List D:=[i 8,i 2,i 2,i 7,i 8]
noncomputable def w155 : List D:=[i 8,i 3,i 3,i 6,i 8]
noncomputable def w156 : List D:=[i 8,i 4,i 4,i 5,i 8]
noncomputable def d103 : D:=.list [w116,w117,w118,w119,w120,w121,w71,w122,w123,w124,w125,w80,w81,w126,w127,w128,w83,w129,w130,w131,w132,w133,w134,w135,w136,w137,w138,w139,w140,w141,w142,w143,w144,w145,w146,w147,w148,w149,w150,w151,w152,w153,w154,w155,w156]
noncomputable def d104 : D:=.agg [i 5,i 9,i 9,i 5,i 1,d103]
noncomputable def d105 : D:=.agg [i 3,i 1,i 3,i 1,i 2,.list [w0,w1,w2],i 1]
noncomputable def d106 : D:=.agg [i 3,i 1,i 3,i 1,i 2,.list [w0,w1,w2],i 2]
noncomputable def d107 : D:=.agg [i 3,i 2,i 3,i 1,i 2,d3,i 1]
noncomputable def d108 : D:=.agg [i 3,i 2,i 3,i 1,i 2,d3,i 2]
noncomputable def d109 : D:=.agg [i 3,i 3,i 3,i 1,i 2,d5,i 1]
noncomputable def d110 : D:=.agg [i 3,i 3,i 3,i 1,i 2,d5,i 2]
noncomputable def d111 : D:=.agg [i 5,i 1,i 5,i 1,i 2,d7,i 1]
noncomputable def d112 : D:=.agg [i 5,i 1,i 5,i 1,i 2,d7,i 2]
noncomputable def d113 : D:=.agg [i 5,i 2,i 5,i 1,i 2,d9,i 1]
noncomputable def d114 : D:=.agg [i 5,i 2,i 5,i 1,i 2,d9,i 2]
noncomputable def d115 : D:=.agg [i 5,i 3,i 5,i 1,i 2,d11,i 1]
noncomputable def d116 : D:=.agg [i 5,i 3,i 5,i 1,i 2,d11,i 2]
noncomputable def d117 : D:=.agg [i 5,i 4,i 5,i 1,i 2,d13,i 1]
noncomputable def d118 : D:=.agg [i 5,i 4,i 5,i 1,i 2,d13,i 2]
noncomputable def d119 : D:=.agg [i 5,i 5,i 5,i 1,i 2,d15,i 1]
noncomputable def d120 : D:=.agg [i 5,i 5,i 5,i 1,i 2,d15,i 2]
noncomputable def d121 : D:=.agg [i 2,i 1,i 2,i 1,i 2,.list [w34,w35],i 1]
noncomputable def d122 : D:=.agg [i 2,i 1,i 2,i 1,i 2,.list [w34,w35],i 2]
noncomputable def d123 : D:=.agg [i 4,i 1,i 4,i 1,i 2,.list [w36,w37,w38,w39],i 1]
noncomputable def d124 : D:=.agg [i 4,i 1,i 4,i 1,i 2,.list [w36,w37,w38,w39],i 2]
noncomputable def d125 : D:=.agg [i 4,i 2,i 4,i 1,i 2,d20,i 1]
noncomputable def d126 : D:=.agg [i 4,i 2,i 4,i 1,i 2,d20,i 2]
noncomputable def d127 : D:=.agg [i 4,i 3,i 4,i 1,i 2,d22,i 1]
noncomputable def d128 : D:=.agg [i 4,i 3,i 4,i 1,i 2,d22,i 2]
noncomputable def d129 : D:=.agg [i 2,i 1,i 2,i 2,i 2,.list [w34,w48],i 1]
noncomputable def d130 : D:=.agg [i 2,i 1,i 2,i 2,i 2,.list [w34,w48],i 2]
noncomputable def d131 : D:=.agg [i 2,i 2,i 2,i 2,i 2,.list [w34,w48,w49,w50],i 1]
noncomputable def d132 : D:=.agg [i 2,i 2,i 2,i 2,i 2,.list [w34,w48,w49,w50],i 2]
noncomputable def d133 : D:=.agg [i 4,i 1,i 4,i 2,i 2,.list [w36,w37,w51,w52],i 1]
noncomputable def d134 : D:=.agg [i 4,i 1,i 4,i 2,i 2,.list [w36,w37,w51,w52],i 2]
noncomputable def d135 : D:=.agg [i 4,i 2,i 4,i 2,i 2,d28,i 1]
noncomputable def d136 : D:=.agg [i 4,i 2,i 4,i 2,i 2,d28,i 2]
noncomputable def d137 : D:=.agg [i 4,i 3,i 4,i 2,i 2,d30,i 1]
noncomputable def d138 : D:=.agg [i 4,i 3,i 4,i 2,i 2,d30,i 2]
noncomputable def d139 : D:=.agg [i 4,i 4,i 4,i 2,i 2,d32,i 1]
noncomputable def d140 : D:=.agg [i 4,i 4,i 4,i 2,i 2,d32,i 2]
noncomputable def d141 : D:=.agg [i 5,i 1,i 5,i 1,i 2,d51,i 1]
noncomputable def d142 : D:=.agg [i 5,i 1,i 5,i 1,i 2,d51,i 2]
noncomputable def d143 : D:=.agg [i 5,i 2,i 5,i 1,i 2,d53,i 1]
noncomputable def d144 : D:=.agg [i 5,i 2,i 5,i 1,i 2,d53,i 2]
noncomputable def d145 : D:=.agg [i 5,i 3,i 5,i 1,i 2,d55,i 1]
noncomputable def d146 : D:=.agg [i 5,i 3,i 5,i 1,i 2,d55,i 2]
noncomputable def d147 : D:=.agg [i 5,i 4,i 5,i 1,i 2,d57,i 1]
noncomputable def d148 : D:=.agg [i 5,i 4,i 5,i 1,i 2,d57,i 2]
noncomputable def d149 : D:=.agg [i 5,i 5,i 5,i 1,i 2,d59,i 1]
noncomputable def d150 : D:=.agg [i 5,i 5,i 5,i 1,i 2,d59,i 2]
noncomputable def d151 : D:=.agg [i 2,i 1,i 3,i 2,i 1,.list [w68,w69],i 1]
noncomputable def d152 : D:=.agg [i 2,i 1,i 3,i 2,i 1,.list [w68,w69],i 2]
noncomputable def d153 : D:=.agg [i 2,i 2,i 3,i 2,i 1,.list [w68,w69,w70,w71],i 1]
noncomputable def d154 : D:=.agg [i 2,i 2,i 3,i 2,i 1,.list [w68,w69,w70,w71],i 2]
noncomputable def d155 : D:=.agg [i 2,i 3,i 3,i 2,i 1,d63,i 1]
noncomputable def d156 : D:=.agg [i 2,i 3,i 3,i 2,i 1,d63,i 2]
noncomputable def d157 : D:=.agg [i 3,i 1,i 5,i 3,i 1,.list [w74,w75,w76],i 1]
noncomputable def d158 : D:=.agg [i 3,i 1,i 5,i 3,i 1,.list [w74,w75,w76],i 2]
noncomputable def d159 : D:=.agg [i 3,i 2,i 5,i 3,i 1,d66,i 1]
noncomputable def d160 : D:=.agg [i 3,i 2,i 5,i 3,i 1,d66,i 2]
noncomputable def d161 : D:=.agg [i 3,i 3,i 5,i 3,i 1,d68,i 1]
noncomputable def d162 : D:=.agg [i 3,i 3,i 5,i 3,i 1,d68,i 2]
noncomputable def d163 : D:=.agg [i 3,i 4,i 5,i 3,i 1,d70,i 1]
noncomputable def d164 : D:=.agg [i 3,i 4,i 5,i 3,i 1,d70,i 2]
noncomputable def d165 : D:=.agg [i 3,i 5,i 5,i 3,i 1,d72,i 1]
noncomputable def d166 : D:=.agg [i 3,i 5,i 5,i 3,i 1,d72,i 2]
noncomputable def d167 : D:=.agg [i 4,i 1,i 7,i 1,i 1,.list [w88,w89,w90,w91],i 1]
noncomputable def d168 : D:=.agg [i 4,i 1,i 7,i 1,i 1,.list [w88,w89,w90,w91],i 2]
noncomputable def d169 : D:=.agg [i 4,i 2,i 7,i 1,i 1,d75,i 1]
noncomputable def d170 : D:=.agg [i 4,i 2,i 7,i 1,i 1,d75,i 2]
noncomputable def d171 : D:=.agg [i 4,i 3,i 7,i 1,i 1,d77,i 1]
noncomputable def d172 : D:=.agg [i 4,i 3,i 7,i 1,i 1,d77,i 2]
noncomputable def d173 : D:=.agg [i 4,i 4,i 7,i 1,i 1,d79,i 1]
noncomputable def d174 : D:=.agg [i 4,i 4,i 7,i 1,i 1,d79,i 2]
noncomputable def d175 : D:=.agg [i 4,i 5,i 7,i 1,i 1,d81,i 1]
noncomputable def d176 : D:=.agg [i 4,i 5,i 7,i 1,i 1,d81,i 2]
noncomputable def d177 : D:=.agg [i 4,i 6,i 7,i 1,i 1,d83,i 1]
noncomputable def d178 : D:=.agg [i 4,i 6,i 7,i 1,i 1,d83,i 2]
noncomputable def d179 : D:=.agg [i 4,i 7,i 7,i 1,i 1,d85,i 1]
noncomputable def d180 : D:=.agg [i 4,i 7,i 7,i 1,i 1,d85,i 2]
noncomputable def d181 : D:=.agg [i 5,i 1,i 9,i 5,i 1,d87,i 1]
noncomputable def d182 : D:=.agg [i 5,i 1,i 9,i 5,i 1,d87,i 2]
noncomputable def d183 : D:=.agg [i 5,i 2,i 9,i 5,i 1,d89,i 1]
noncomputable def d184 : D:=.agg [i 5,i 2,i 9,i 5,i 1,d89,i 2]
noncomputable def d185 : D:=.agg [i 5,i 3,i 9,i 5,i 1,d91,i 1]
noncomputable def d186 : D:=.agg [i 5,i 3,i 9,i 5,i 1,d91,i 2]
noncomputable def d187 : D:=.agg [i 5,i 4,i 9,i 5,i 1,d93,i 1]
noncomputable def d188 : D:=.agg [i 5,i 4,i 9,i 5,i 1,d93,i 2]
noncomputable def d189 : D:=.agg [i 5,i 5,i 9,i 5,i 1,d95,i 1]
noncomputable def d190 : D:=.agg [i 5,i 5,i 9,i 5,i 1,d95,i 2]
noncomputable def d191 : D:=.agg [i 5,i 6,i 9,i 5,i 1,d97,i 1]
noncomputable def d192 : D:=.agg [i 5,i 6,i 9,i 5,i 1,d97,i 2]
noncomputable def d193 : D:=.agg [i 5,i 7,i 9,i 5,i 1,d99,i 1]
noncomputable def d194 : D:=.agg [i 5,i 7,i 9,i 5,i 1,d99,i 2]
noncomputable def d195 : D:=.agg [i 5,i 8,i 9,i 5,i 1,d101,i 1]
noncomputable def d196 : D:=.agg [i 5,i 8,i 9,i 5,i 1,d101,i 2]
noncomputable def d197 : D:=.agg [i 5,i 9,i 9,i 5,i 1,d103,i 1]
noncomputable def d198 : D:=.agg [i 5,i 9,i 9,i 5,i 1,d103,i 2]
noncomputable def d199 : D:=.agg [i 0,i 0,i 1,i 6,i 0]
noncomputable def d200 : D:=.agg [i 0,i 1,i 2,i 7,i 1]
noncomputable def d201 : D:=.agg [i 0,i 2,i 3,i 8,i 2]
noncomputable def d202 : D:=.agg [i 0,i 3,i 4,i 9,i 3]
noncomputable def d203 : D:=.agg [i 0,i 4,i 5,i 10,i 4]
noncomputable def d204 : D:=.agg [i 1,i 0,i 1,i 10,i 1]
noncomputable def d205 : D:=.agg [i 1,i 1,i 2,i 6,i 2]
noncomputable def d206 : D:=.agg [i 1,i 3,i 4,i 8,i 4]
noncomputable def d207 : D:=.agg [i 1,i 4,i 5,i 9,i 0]
noncomputable def d208 : D:=.agg [i 2,i 0,i 1,i 9,i 2]
noncomputable def d209 : D:=.agg [i 2,i 1,i 2,i 10,i 3]
noncomputable def d210 : D:=.agg [i 2,i 2,i 3,i 6,i 4]
noncomputable def d211 : D:=.agg [i 2,i 3,i 4,i 7,i 0]
noncomputable def d212 : D:=.agg [i 0,i 0,i 1,i 5,i 0]
noncomputable def d213 : D:=.agg [i 0,i 1,i 2,i 6,i 1]
noncomputable def d214 : D:=.agg [i 1,i 0,i 1,i 8,i 1]
noncomputable def d215 : D:=.agg [i 1,i 1,i 2,i 5,i 2]
noncomputable def d216 : D:=.agg [i 0,i 0,i 11,i 6,i 0]
noncomputable def d217 : D:=.agg [i 1,i 1,i 3,i 1,i 1]
noncomputable def d218 : D:=.agg [i 0,i 0,i 6,i 1,i 0]
noncomputable def d219 : D:=.agg [i 0,i 1,i 2,i 5,i 0]
noncomputable def d220 : D:=.agg [i 0,i 2,i 3,i 4,i 0]
noncomputable def d221 : D:=.agg [i 2,i 1,i 4,i 2,i 2]
noncomputable def d222 : D:=.agg [i 2,i 2,i 5,i 1,i 2]
noncomputable def d223 : D:=.agg [i 3,i 1,i 5,i 3,i 3]
noncomputable def d224 : D:=.agg [i 0,i 0,i 8,i 1,i 0]
noncomputable def d225 : D:=.agg [i 0,i 1,i 2,i 4,i 4]
noncomputable def d226 : D:=.agg [i 0,i 2,i 3,i 7,i 1]
noncomputable def d227 : D:=.agg [i 0,i 3,i 5,i 6,i 2]
noncomputable def d228 : D:=.agg [i 1,i 0,i 8,i 2,i 1]
noncomputable def d229 : D:=.agg [i 1,i 1,i 3,i 5,i 5]
noncomputable def d230 : D:=.agg [i 1,i 2,i 4,i 1,i 2]
noncomputable def d231 : D:=.agg [i 1,i 3,i 6,i 7,i 3]
noncomputable def d232 : D:=.agg [i 2,i 0,i 8,i 3,i 2]
noncomputable def d233 : D:=.agg [i 2,i 1,i 4,i 6,i 6]
noncomputable def d234 : D:=.agg [i 2,i 2,i 5,i 2,i 3]
noncomputable def d235 : D:=.agg [i 2,i 3,i 7,i 1,i 4]
noncomputable def d236 : D:=.agg [i 0,i 0,i 10,i 1,i 0]
noncomputable def d237 : D:=.agg [i 0,i 1,i 2,i 9,i 0]
noncomputable def d238 : D:=.agg [i 0,i 2,i 3,i 8,i 0]
noncomputable def d239 : D:=.agg [i 0,i 3,i 4,i 7,i 0]
noncomputable def d240 : D:=.agg [i 0,i 4,i 5,i 6,i 0]
noncomputable def d241 : D:=.agg [i 1,i 0,i 10,i 2,i 1]
noncomputable def d242 : D:=.agg [i 1,i 2,i 4,i 9,i 1]
noncomputable def d243 : D:=.agg [i 1,i 3,i 5,i 8,i 1]
noncomputable def d244 : D:=.agg [i 1,i 4,i 6,i 7,i 1]
noncomputable def d245 : D:=.agg [i 2,i 0,i 10,i 3,i 2]
noncomputable def d246 : D:=.agg [i 2,i 3,i 6,i 9,i 2]
noncomputable def d247 : D:=.agg [i 2,i 4,i 7,i 8,i 2]
noncomputable def d248 : D:=.agg [i 3,i 0,i 10,i 4,i 3]
noncomputable def d249 : D:=.agg [i 3,i 2,i 6,i 2,i 3]
noncomputable def d250 : D:=.agg [i 3,i 3,i 7,i 1,i 3]
noncomputable def d251 : D:=.agg [i 3,i 4,i 8,i 9,i 3]
noncomputable def d252 : D:=.agg [i 4,i 0,i 10,i 5,i 4]
noncomputable def d253 : D:=.agg [i 4,i 1,i 6,i 4,i 4]
noncomputable def d254 : D:=.agg [i 4,i 2,i 7,i 3,i 4]
noncomputable def d255 : D:=.agg [i 4,i 3,i 8,i 2,i 4]
noncomputable def d256 : D:=.agg [i 4,i 4,i 9,i 1,i 4]
noncomputable def d257 : D:=.list [[i 1,i 4],[i 2,i 3]]
noncomputable def d258 : D:=.list [[i 1,i 3],[i 2,i 6],[i 4,i 5]]
noncomputable def d259 : D:=.list [[i 1,i 8],[i 2,i 7],[i 3,i 6],[i 4,i 5]]
noncomputable def w157 : List D:=[i 0,i 0,i 1,i 1,u 1,u 0,F,u 4,u 3,u 0,u 0,i 10,i 0,u 0,u 0,u 0,u 0,i 0,i 0,u 0,u 0,u 0,u 0,i 0,i 0,u 0,u 0,u 0,u 0,i 0,i 0,i 0,i 0]
noncomputable def w158 : List D:=[i 1,i 2,i 1,i 1,u 1,u 0,F,u 4,u 3,u 0,u 0,i 11,i 0,u 0,u 0,u 0,u 0,i 0,i 0,u 0,u 0,u 0,u 0,i 0,i 0,u 0,u 0,u 0,u 0,i 0,i 0,i 0,i 0]
noncomputable def w159 : List D:=[i 2,i 1,i 1,i 1,u 1,u 0,F,u 4,u 3,u 0,u 0,i 9,i 0,u 0,u 0,u 0,u 0,i 0,i 0,u 0,u 0,u 0,u 0,i 0,i 0,u 0,u 0,u 0,u 0,i 0,i 0,i 0,i 0]
noncomputable def d260 : D:=.tup [.list [w157,w158,w159],i 0]
noncomputable def w160 : List D:=[i 1,i 2,i 1,i 1,u 1,u 0,T,u 4,u 3,u 0,u 0,i 11,i 0,u 0,u 0,u 0,u 0,i 0,i 0,u 0,u 0,u 0,u 0,i 0,i 0,u 0,u 0,u 0,u 0,i 0,i 0,i 0,i 0]
noncomputable def d261 : D:=.tup [.list [w157,w160,w159],i 0]
noncomputable def d262 : D:=.tup [.list [w157,w158],i 0]
noncomputable def d263 : D:=.agg [i 0,i 0,i 1,i 1,u 1,u 0,F,u 4,u 3,u 0,u 0,i 10,i 0,u 0,u 0,u 0,u 0,i 0,i 0,u 0,u 0,u 0,u 0,i 0,i 0,u 0,u 0,u 0,u 0,i 0,i 0,i 0,i 0]
noncomputable def d264 : D:=.agg [i 1,i 2,i 1,i 1,u 1,u 0,F,u 4,u 3,u 0,u 0,i 11,i 0,u 0,u 0,u 0,u 0,i 0,i 0,u 0,u 0,u 0,u 0,i 0,i 0,u 0,u 0,u 0,u 0,i 0,i 0,i 0,i 0]
noncomputable def d265 : D:=.tup [i 3,.agg [i 3,i 0,i 0,i 0],i 0]
noncomputable def w161 : List D:=[u 4,u 3,u 0,u 0,i 11,i 100]
noncomputable def d266 : D:=.tup [.list [[i 450,i 100]],i 0]
noncomputable def w162 : List D:=[.list [[i (-50),i 100]]]
noncomputable def d267 : D:=.list [[.list [[i 420,i 100]]],[.list [[i 450,i 100]]],w162]
noncomputable def d268 : D:=.list [[i 2,i 1],[i 4,i 1],[i 0,i 1]]
noncomputable def d269 : D:=.tup [.undef,.tup [d268,i 0]]
noncomputable def w163 : List D:=[.list [[i (-420),i 100]]]
noncomputable def w164 : List D:=[.list [[i (-450),i 100]]]
noncomputable def d270 : D:=.list [w163,w164,[.list [[i 50,i 100]]]]
noncomputable def d271 : D:=.list [[i 2,i 1],[i 0,i 1],[i 4,i 1]]
noncomputable def d272 : D:=.tup [.undef,.tup [d271,i 0]]
noncomputable def k166 : L:=[⟨[i 2,u 2],.tup [i 1,i 0]⟩,
⟨[i 4,u 2],.tup [i 3,i 0]⟩,
⟨[i 2,u 3],.tup [i 2,i 0]⟩,
⟨[i 4,u 3],.tup [i 4,i 0]⟩,
⟨[i 3,u 1],.tup [i 3,i 0]⟩,
⟨[i 5,u 1],.tup [i 5,i 0]⟩]
noncomputable def k1000043000210 : L:=[⟨[d1],.list [w0,w1,w2]⟩,
⟨[d2],d3⟩,
⟨[d4],d5⟩,
⟨[d6],d7⟩,
⟨[d8],d9⟩,
⟨[d10],d11⟩,
⟨[d12],d13⟩,
⟨[d14],d15⟩,
⟨[d17],.list [w34,w35]⟩,
⟨[d18],.list [w36,w37,w38,w39]⟩,
⟨[d19],d20⟩,
⟨[d21],d22⟩,
⟨[d24],.list [w34,w48]⟩,
⟨[d25],.list [w34,w48,w49,w50]⟩,
⟨[d26],.list [w36,w37,w51,w52]⟩,
⟨[d27],d28⟩,
⟨[d29],d30⟩,
⟨[d31],d32⟩]
noncomputable def k168 : L:=[⟨[i 3,i 1,u 1],.tup [d33,i 0]⟩,
⟨[i 3,i 2,u 1],.tup [d34,i 0]⟩,
⟨[i 3,i 3,u 1],.tup [d35,i 0]⟩,
⟨[i 5,i 1,u 1],.tup [d36,i 0]⟩,
⟨[i 5,i 2,u 1],.tup [d37,i 0]⟩,
⟨[i 5,i 3,u 1],.tup [d38,i 0]⟩,
⟨[i 5,i 4,u 1],.tup [d39,i 0]⟩,
⟨[i 5,i 5,u 1],.tup [d40,i 0]⟩,
⟨[i 2,i 1,u 2],.tup [d41,i 0]⟩,
⟨[i 4,i 1,u 2],.tup [d42,i 0]⟩,
⟨[i 4,i 2,u 2],.tup [d43,i 0]⟩,
⟨[i 4,i 3,u 2],.tup [d44,i 0]⟩,
⟨[i 2,i 1,u 3],.tup [d45,i 0]⟩,
⟨[i 2,i 2,u 3],.tup [d46,i 0]⟩,
⟨[i 4,i 1,u 3],.tup [d47,i 0]⟩,
⟨[i 4,i 2,u 3],.tup [d48,i 0]⟩,
⟨[i 4,i 3,u 3],.tup [d49,i 0]⟩,
⟨[i 4,i 4,u 3],.tup [d50,i 0]⟩]
noncomputable def k167 : L:=[⟨[i 5,i 1],.tup [d52,i 0]⟩,
⟨[i 5,i 2],.tup [d54,i 0]⟩,
⟨[i 5,i 3],.tup [d56,i 0]⟩,
⟨[i 5,i 4],.tup [d58,i 0]⟩,
⟨[i 5,i 5],.tup [d60,i 0]⟩]
noncomputable def k171 : L:=[⟨[i 4],.tup [d258,i 0]⟩]
noncomputable def k218 : L:=[⟨[i 5,d257],.tup [F,i 0]⟩,
⟨[i 7,d258],.tup [T,i 0]⟩,
⟨[i 9,d259],.tup [F,i 0]⟩]
noncomputable def k123 : L:=[⟨[i 2,i 1],.tup [d61,i 0]⟩,
⟨[i 2,i 2],.tup [d62,i 0]⟩,
⟨[i 2,i 3],.tup [d64,i 0]⟩,
⟨[i 3,i 1],.tup [d65,i 0]⟩,
⟨[i 3,i 2],.tup [d67,i 0]⟩,
⟨[i 3,i 3],.tup [d69,i 0]⟩,
⟨[i 3,i 4],.tup [d71,i 0]⟩,
⟨[i 3,i 5],.tup [d73,i 0]⟩,
⟨[i 4,i 1],.tup [d74,i 0]⟩,
⟨[i 4,i 2],.tup [d76,i 0]⟩,
⟨[i 4,i 3],.tup [d78,i 0]⟩,
⟨[i 4,i 4],.tup [d80,i 0]⟩,
⟨[i 4,i 5],.tup [d82,i 0]⟩,
⟨[i 4,i 6],.tup [d84,i 0]⟩,
⟨[i 4,i 7],.tup [d86,i 0]⟩,
⟨[i 5,i 1],.tup [d88,i 0]⟩,
⟨[i 5,i 2],.tup [d90,i 0]⟩,
⟨[i 5,i 3],.tup [d92,i 0]⟩,
⟨[i 5,i 4],.tup [d94,i 0]⟩,
⟨[i 5,i 5],.tup [d96,i 0]⟩,
⟨[i 5,i 6],.tup [d98,i 0]⟩,
⟨[i 5,i 7],.tup [d100,i 0]⟩,
⟨[i 5,i 8],.tup [d102,i 0]⟩,
⟨[i 5,i 9],.tup [d104,i 0]⟩]
noncomputable def k91 : L:=[⟨[d199],T⟩,
⟨[d200],T⟩,
⟨[d201],T⟩,
⟨[d202],T⟩,
⟨[d203],T⟩,
⟨[d204],T⟩,
⟨[d205],T⟩,
⟨[d206],T⟩,
⟨[d207],T⟩,
⟨[d208],T⟩,
⟨[d209],T⟩,
⟨[d210],T⟩,
⟨[d211],T⟩,
⟨[d212],T⟩,
⟨[d213],T⟩,
⟨[d214],T⟩,
⟨[d215],T⟩,
⟨[d216],T⟩,
⟨[d217],T⟩,
⟨[d218],T⟩,
⟨[d219],T⟩,
⟨[d220],T⟩,
⟨[d221],T⟩,
⟨[d222],T⟩,
⟨[d223],T⟩,
⟨[d224],T⟩,
⟨[d225],T⟩,
⟨[d226],T⟩,
⟨[d227],T⟩,
⟨[d228],T⟩,
⟨[d229],T⟩,
⟨[d230],T⟩,
⟨[d231],T⟩,
⟨[d232],T⟩,
⟨[d233],T⟩,
⟨[d234],T⟩,
⟨[d235],T⟩,
⟨[d236],T⟩,
⟨[d237],T⟩,
⟨[d238],T⟩,
⟨[d239],T⟩,
⟨[d240],T⟩,
⟨[d241],T⟩,
⟨[d242],T⟩,
⟨[d243],T⟩,
⟨[d244],T⟩,
⟨[d245],T⟩,
⟨[d246],T⟩,
⟨[d247],T⟩,
⟨[d248],T⟩,
⟨[d249],T⟩,
⟨[d250],T⟩,
⟨[d251],T⟩,
⟨[d252],T⟩,
⟨[d253],T⟩,
⟨[d254],T⟩,
⟨[d255],T⟩,
⟨[d256],T⟩]
noncomputable def k226 : L:=[⟨[i 0,i 1],F⟩,
⟨[i 0,i 3],F⟩,
⟨[i 1,i 3],F⟩,
⟨[i 2,i 3],F⟩,
⟨[i 0,i 2],F⟩,
⟨[i 1,i 2],F⟩,
⟨[i 0,i 5],F⟩,
⟨[i 1,i 5],F⟩,
⟨[i 2,i 5],F⟩,
⟨[i 3,i 5],F⟩,
⟨[i 4,i 5],F⟩,
⟨[i 0,i 4],F⟩,
⟨[i 1,i 4],F⟩,
⟨[i 2,i 4],F⟩,
⟨[i 3,i 4],F⟩]
noncomputable def k90 : L:=[⟨[d33,i 9223372036854775807],.tup [T,i 0]⟩,
⟨[d34,i 9223372036854775807],.tup [T,i 0]⟩,
⟨[d35,i 9223372036854775807],.tup [T,i 0]⟩,
⟨[d36,i 9223372036854775807],.tup [T,i 0]⟩,
⟨[d37,i 9223372036854775807],.tup [T,i 0]⟩,
⟨[d38,i 9223372036854775807],.tup [T,i 0]⟩,
⟨[d39,i 9223372036854775807],.tup [T,i 0]⟩,
⟨[d40,i 9223372036854775807],.tup [T,i 0]⟩,
⟨[d41,i 9223372036854775807],.tup [T,i 0]⟩,
⟨[d42,i 9223372036854775807],.tup [T,i 0]⟩,
⟨[d43,i 9223372036854775807],.tup [T,i 0]⟩,
⟨[d44,i 9223372036854775807],.tup [T,i 0]⟩,
⟨[d45,i 9223372036854775807],.tup [T,i 0]⟩,
⟨[d46,i 9223372036854775807],.tup [T,i 0]⟩,
⟨[d47,i 9223372036854775807],.tup [T,i 0]⟩,
⟨[d48,i 9223372036854775807],.tup [T,i 0]⟩,
⟨[d49,i 9223372036854775807],.tup [T,i 0]⟩,
⟨[d50,i 9223372036854775807],.tup [T,i 0]⟩,
⟨[d52,i 9223372036854775807],.tup [T,i 0]⟩,
⟨[d54,i 9223372036854775807],.tup [T,i 0]⟩,
⟨[d56,i 9223372036854775807],.tup [T,i 0]⟩,
⟨[d58,i 9223372036854775807],.tup [T,i 0]⟩,
⟨[d60,i 9223372036854775807],.tup [T,i 0]⟩,
⟨[d61,i 9223372036854775807],.tup [T,i 0]⟩,
⟨[d62,i 9223372036854775807],.tup [T,i 0]⟩,
⟨[d64,i 9223372036854775807],.tup [T,i 0]⟩,
⟨[d65,i 9223372036854775807],.tup [T,i 0]⟩,
⟨[d67,i 9223372036854775807],.tup [T,i 0]⟩,
⟨[d69,i 9223372036854775807],.tup [T,i 0]⟩,
⟨[d71,i 9223372036854775807],.tup [T,i 0]⟩,
⟨[d73,i 9223372036854775807],.tup [T,i 0]⟩,
⟨[d74,i 9223372036854775807],.tup [T,i 0]⟩,
⟨[d76,i 9223372036854775807],.tup [T,i 0]⟩,
⟨[d78,i 9223372036854775807],.tup [T,i 0]⟩,
⟨[d80,i 9223372036854775807],.tup [T,i 0]⟩,
⟨[d82,i 9223372036854775807],.tup [T,i 0]⟩,
⟨[d84,i 9223372036854775807],.tup [T,i 0]⟩,
⟨[d86,i 9223372036854775807],.tup [T,i 0]⟩,
⟨[d88,i 9223372036854775807],.tup [T,i 0]⟩,
⟨[d90,i 9223372036854775807],.tup [T,i 0]⟩,
⟨[d92,i 9223372036854775807],.tup [T,i 0]⟩,
⟨[d94,i 9223372036854775807],.tup [T,i 0]⟩,
⟨[d96,i 9223372036854775807],.tup [T,i 0]⟩,
⟨[d98,i 9223372036854775807],.tup [T,i 0]⟩,
⟨[d100,i 9223372036854775807],.tup [T,i 0]⟩,
⟨[d102,i 9223372036854775807],.tup [T,i 0]⟩,
⟨[d104,i 9223372036854775807],.tup [T,i 0]⟩]
noncomputable def k54 : L:=[⟨[d105],i 0⟩,
⟨[d106],i 0⟩,
⟨[d107],i 0⟩,
⟨[d108],i 0⟩,
⟨[d109],i 0⟩,
⟨[d110],i 0⟩,
⟨[d111],i 0⟩,
⟨[d112],i 0⟩,
⟨[d113],i 0⟩,
⟨[d114],i 0⟩,
⟨[d115],i 0⟩,
⟨[d116],i 0⟩,
⟨[d117],i 0⟩,
⟨[d118],i 0⟩,
⟨[d119],i 0⟩,
⟨[d120],i 0⟩,
⟨[d121],i 0⟩,
⟨[d122],i 0⟩,
⟨[d123],i 0⟩,
⟨[d124],i 0⟩,
⟨[d125],i 0⟩,
⟨[d126],i 0⟩,
⟨[d127],i 0⟩,
⟨[d128],i 0⟩,
⟨[d129],i 0⟩,
⟨[d130],i 0⟩,
⟨[d131],i 0⟩,
⟨[d132],i 0⟩,
⟨[d133],i 0⟩,
⟨[d134],i 0⟩,
⟨[d135],i 0⟩,
⟨[d136],i 0⟩,
⟨[d137],i 0⟩,
⟨[d138],i 0⟩,
⟨[d139],i 0⟩,
⟨[d140],i 0⟩,
⟨[d141],i 0⟩,
⟨[d142],i 0⟩,
⟨[d143],i 0⟩,
⟨[d144],i 0⟩,
⟨[d145],i 0⟩,
⟨[d146],i 0⟩,
⟨[d147],i 0⟩,
⟨[d148],i 0⟩,
⟨[d149],i 0⟩,
⟨[d150],i 0⟩,
⟨[d151],i 0⟩,
⟨[d152],i 0⟩,
⟨[d153],i 0⟩,
⟨[d154],i 0⟩,
⟨[d155],i 0⟩,
⟨[d156],i 0⟩,
⟨[d157],i 0⟩,
⟨[d158],i 0⟩,
⟨[d159],i 0⟩,
⟨[d160],i 0⟩,
⟨[d161],i 0⟩,
⟨[d162],i 0⟩,
⟨[d163],i 0⟩,
⟨[d164],i 0⟩,
⟨[d165],i 0⟩,
⟨[d166],i 0⟩,
⟨[d167],i 0⟩,
⟨[d168],i 0⟩,
⟨[d169],i 0⟩,
⟨[d170],i 0⟩,
⟨[d171],i 0⟩,
⟨[d172],i 0⟩,
⟨[d173],i 0⟩,
⟨[d174],i 0⟩,
⟨[d175],i 0⟩,
⟨[d176],i 0⟩,
⟨[d177],i 0⟩,
⟨[d178],i 0⟩,
⟨[d179],i 0⟩,
⟨[d180],i 0⟩,
⟨[d181],i 0⟩,
⟨[d182],i 0⟩,
⟨[d183],i 0⟩,
⟨[d184],i 0⟩,
⟨[d185],i 0⟩,
⟨[d186],i 0⟩,
⟨[d187],i 0⟩,
⟨[d188],i 0⟩,
⟨[d189],i 0⟩,
⟨[d190],i 0⟩,
⟨[d191],i 0⟩,
⟨[d192],i 0⟩,
⟨[d193],i 0⟩,
⟨[d194],i 0⟩,
⟨[d195],i 0⟩,
⟨[d196],i 0⟩,
⟨[d197],i 0⟩,
⟨[d198],i 0⟩]
noncomputable def k20 : L:=[⟨[.list [w157,w158,w159]],.tup [.undef,d260]⟩,
⟨[.list [w157,w160,w159]],.tup [.undef,d261]⟩,
⟨[.list [w157,w158]],.tup [.undef,d262]⟩]
noncomputable def k286 : L:=[⟨[.agg [u 4,u 3,u 0,u 0]],T⟩]
noncomputable def k149 : L:=[⟨[d263],T⟩,
⟨[d264],T⟩]
noncomputable def k88 : L:=[⟨[.list [w157,w158,w159]],d265⟩,
⟨[.list [w157,w160,w159]],d265⟩]
noncomputable def k225 : L:=[⟨[.agg [i 2,i 1],i 3,i 3],.tup [.agg [i 2,i 1],i 0]⟩,
⟨[.agg [i 4,i 1],i 3,i 3],.tup [.agg [i 4,i 1],i 0]⟩,
⟨[.agg [i 0,i 1],i 3,i 3],.tup [.agg [i 0,i 1],i 0]⟩,
⟨[.agg [i 0,i 1],i 2,i 2],.tup [.agg [i 0,i 1],i 0]⟩,
⟨[.agg [i 2,i 1],i 2,i 2],.tup [.agg [i 2,i 1],i 0]⟩]
noncomputable def k179 : L:=[⟨[d267,i 3],d269⟩,
⟨[d270,i 3],d272⟩]
noncomputable def k222 : L:=[⟨[.list [w161],u 0],.tup [.undef,d266]⟩]
noncomputable def k11 : L:=[⟨[],T⟩]
end Memo
end Go.Proofs.YtkcfpgaepmllhaaGreatDoor
