/- Calls and what they give, as data. No condition. -/
import Derived.Test.YtkcfpgaepmllhaaGreatDoorZao
set_option linter.unusedVariables false
set_option linter.unusedSimpArgs false
set_option linter.constructorNameAsVariable false
namespace Go.Proofs.YtkcfpgaepmllhaaGreatDoor
namespace Memo
set_option maxRecDepth 100000
abbrev i (z : Int) : D:=iv z
abbrev u (z : Int) : D:=.v (.int .u8 z)
abbrev T : D:=bv true
abbrev F : D:=bv false
abbrev L:=List Known
noncomputable def d0 : D:=.agg [i 0,i 0,i 8000024,i 0,i 0]
noncomputable def d1 : D:=.agg [i 0,i 0,i 8000025,i 0,i 0]
noncomputable def d2 : D:=.agg [i 0,i 0,i 8000026,i 0,i 0]
noncomputable def d3 : D:=.agg [i 0,i 0,i 8000027,i 0,i 0]
noncomputable def d4 : D:=.agg [i 0,i 0,i 8000028,i 0,i 0]
noncomputable def d5 : D:=.agg [i 0,i 0,i 8000029,i 0,i 0]
noncomputable def d6 : D:=.agg [i 0,i 0,i 8000030,i 0,i 0]
noncomputable def d7 : D:=.agg [i 0,i 0,i 8000031,i 0,i 0]
noncomputable def d8 : D:=.agg [i 0,i 0,i 8000032,i 0,i 0]
noncomputable def d9 : D:=.agg [i 0,i 0,i 8000033,i 0,i 0]
noncomputable def d10 : D:=.agg [i 0,i 0,i 8000034,i 0,i 0]
noncomputable def d11 : D:=.agg [i 0,i 0,i 8000035,i 0,i 0]
noncomputable def d12 : D:=.agg [i 0,i 0,i 8000024,i 0,u 0,u 0,F,u 0,u 0,u 0,u 0,i 0,i 0,u 0,u 0,u 0,u 0,i 0,i 0,u 0,u 0,u 0,u 0,i 0,i 0,u 0,u 0,u 0,u 0,i 0,i 0,i 0,i 0]
noncomputable def d13 : D:=.agg [i 0,i 0,i 8000025,i 0,u 0,u 0,F,u 0,u 0,u 0,u 0,i 0,i 0,u 0,u 0,u 0,u 0,i 0,i 0,u 0,u 0,u 0,u 0,i 0,i 0,u 0,u 0,u 0,u 0,i 0,i 0,i 0,i 0]
noncomputable def d14 : D:=.agg [i 0,i 0,i 8000026,i 0,u 0,u 0,F,u 0,u 0,u 0,u 0,i 0,i 0,u 0,u 0,u 0,u 0,i 0,i 0,u 0,u 0,u 0,u 0,i 0,i 0,u 0,u 0,u 0,u 0,i 0,i 0,i 0,i 0]
noncomputable def d15 : D:=.agg [i 0,i 0,i 8000027,i 0,u 0,u 0,F,u 0,u 0,u 0,u 0,i 0,i 0,u 0,u 0,u 0,u 0,i 0,i 0,u 0,u 0,u 0,u 0,i 0,i 0,u 0,u 0,u 0,u 0,i 0,i 0,i 0,i 0]
noncomputable def d16 : D:=.agg [i 0,i 0,i 8000028,i 0,u 0,u 0,F,u 0,u 0,u 0,u 0,i 0,i 0,u 0,u 0,u 0,u 0,i 0,i 0,u 0,u 0,u 0,u 0,i 0,i 0,u 0,u 0,u 0,u 0,i 0,i 0,i 0,i 0]
noncomputable def d17 : D:=.agg [i 0,i 0,i 8000029,i 0,u 0,u 0,F,u 0,u 0,u 0,u 0,i 0,i 0,u 0,u 0,u 0,u 0,i 0,i 0,u 0,u 0,u 0,u 0,i 0,i 0,u 0,u 0,u 0,u 0,i 0,i 0,i 0,i 0]
noncomputable def d18 : D:=.agg [i 0,i 0,i 8000030,i 0,u 0,u 0,F,u 0,u 0,u 0,u 0,i 0,i 0,u 0,u 0,u 0,u 0,i 0,i 0,u 0,u 0,u 0,u 0,i 0,i 0,u 0,u 0,u 0,u 0,i 0,i 0,i 0,i 0]
noncomputable def d19 : D:=.agg [i 0,i 0,i 8000031,i 0,u 0,u 0,F,u 0,u 0,u 0,u 0,i 0,i 0,u 0,u 0,u 0,u 0,i 0,i 0,u 0,u 0,u 0,u 0,i 0,i 0,u 0,u 0,u 0,u 0,i 0,i 0,i 0,i 0]
noncomputable def d20 : D:=.agg [i 0,i 0,i 8000032,i 0,u 0,u 0,F,u 0,u 0,u 0,u 0,i 0,i 0,u 0,u 0,u 0,u 0,i 0,i 0,u 0,u 0,u 0,u 0,i 0,i 0,u 0,u 0,u 0,u 0,i 0,i 0,i 0,i 0]
noncomputable def d21 : D:=.agg [i 0,i 0,i 8000033,i 0,u 0,u 0,F,u 0,u 0,u 0,u 0,i 0,i 0,u 0,u 0,u 0,u 0,i 0,i 0,u 0,u 0,u 0,u 0,i 0,i 0,u 0,u 0,u 0,u 0,i 0,i 0,i 0,i 0]
noncomputable def d22 : D:=.agg [i 0,i 0,i 8000034,i 0,u 0,u 0,F,u 0,u 0,u 0,u 0,i 0,i 0,u 0,u 0,u 0,u 0,i 0,i 0,u 0,u 0,u 0,u 0,i 0,i 0,u 0,u 0,u 0,u 0,i 0,i 0,i 0,i 0]
noncomputable def d23 : D:=.agg [i 0,i 0,i 8000035,i 0,u 0,u 0,F,u 0,u 0,u 0,u 0,i 0,i 0,u 0,u 0,u 0,u 0,i 0,i 0,u 0,u 0,u 0,u 0,i 0,i 0,u 0,u 0,u 0,u 0,i 0,i 0,i 0,i 0]
noncomputable def w0 : List D:=[i 0,i 0,i 1,i 4,i 0]
noncomputable def w1 : List D:=[i 0,i 1,i 2,i 5,i 1]
noncomputable def w2 : List D:=[i 0,i 2,i 3,i 6,i 2]
noncomputable def w3 : List D:=[i 1,i 0,i 1,i 6,i 1]
noncomputable def w4 : List D:=[i 1,i 1,i 2,i 4,i 2]
noncomputable def w5 : List D:=[i 1,i 2,i 3,i 5,i 0]
noncomputable def w6 : List D:=[i 2,i 0,i 1,i 5,i 2]
noncomputable def w7 : List D:=[i 2,i 1,i 2,i 6,i 0]
noncomputable def w8 : List D:=[i 2,i 2,i 3,i 4,i 1]
noncomputable def d24 : D:=.list [w0,w1,w2,w3,w4,w5,w6,w7,w8]
noncomputable def d25 : D:=.agg [i 3,i 3,i 3,i 1,i 2,d24]
noncomputable def d26 : D:=.agg [i 3,i 3,i 3,i 1,i 2,d24,i 1]
noncomputable def d27 : D:=.agg [i 3,i 3,i 3,i 1,i 2,d24,i 2]
noncomputable def d28 : D:=.list [w0,w1,w2,w3,w4,w5,w6,w7,w0]
noncomputable def d29 : D:=.agg [i 3,i 3,i 3,i 1,i 2,d28,i 1]
noncomputable def w9 : List D:=[i 0,i 0,i 0,i 4,i 0]
noncomputable def d30 : D:=.list [w9,w1,w2,w3,w4,w5,w6,w7,w8]
noncomputable def d31 : D:=.agg [i 3,i 3,i 3,i 1,i 2,d30,i 1]
noncomputable def d32 : D:=.list [w8,w1,w2,w3,w4,w5,w6,w7,w0]
noncomputable def d33 : D:=.agg [i 3,i 3,i 3,i 1,i 2,d32,i 1]
noncomputable def d34 : D:=.agg [i 0,i 0,i 0,i 0,i 0,.list [],i 0]
noncomputable def d35 : D:=.list [[i 0,i 0,i 1],[i 0,i 1,i 2],[i 0,i 2,i 3],[i 1,i 0,i 2],[i 1,i 1,i 3],[i 1,i 2,i 1],[i 2,i 0,i 3],[i 2,i 1,i 1],[i 2,i 2,i 2]]
noncomputable def d36 : D:=.tup [.undef,.tup [d35,i 0]]
noncomputable def d37 : D:=.list [[i 0,i 0,i 1],[i 0,i 0,i 2],[i 0,i 1,i 3],[i 0,i 1,i 4],[i 0,i 2,i 5],[i 0,i 2,i 6],[i 1,i 0,i 3],[i 1,i 0,i 4],[i 1,i 1,i 5],[i 1,i 1,i 6],[i 1,i 2,i 1],[i 1,i 2,i 2],[i 2,i 0,i 5],[i 2,i 0,i 6],[i 2,i 1,i 1],[i 2,i 1,i 2],[i 2,i 2,i 3],[i 2,i 2,i 4]]
noncomputable def d38 : D:=.tup [.undef,.tup [d37,i 0]]
noncomputable def d39 : D:=.list [[i 0,i 1,i 2],[i 0,i 2,i 3],[i 1,i 0,i 2],[i 1,i 1,i 3],[i 1,i 2,i 1],[i 2,i 0,i 3],[i 2,i 1,i 1],[i 2,i 2,i 2]]
noncomputable def d40 : D:=.tup [.undef,.tup [d39,i 0]]
noncomputable def d41 : D:=.agg [i 0,i 0,i 1,i 4,i 0]
noncomputable def d42 : D:=.agg [i 0,i 1,i 2,i 5,i 1]
noncomputable def d43 : D:=.agg [i 0,i 2,i 3,i 6,i 2]
noncomputable def d44 : D:=.agg [i 1,i 0,i 1,i 6,i 1]
noncomputable def d45 : D:=.agg [i 1,i 1,i 2,i 4,i 2]
noncomputable def d46 : D:=.agg [i 1,i 2,i 3,i 5,i 0]
noncomputable def d47 : D:=.tup [.undef,.tup [.list [],i 0]]
noncomputable def d48 : D:=.agg [i 2,i 1,i 2,i 6,i 0]
noncomputable def d49 : D:=.agg [i 1,i 2,i 1,i 1,u 1,u 0,F,u 4,u 3,u 0,u 0,i 11,i 0,u 0,u 0,u 0,u 0,i 0,i 0,u 0,u 0,u 0,u 0,i 0,i 0,u 0,u 0,u 0,u 0,i 0,i 0,i 0,i 0]
noncomputable def d50 : D:=.agg [i 0,i 0,i 1,i 1,u 1,u 0,F,u 4,u 3,u 0,u 0,i 10,i 0,u 0,u 0,u 0,u 0,i 0,i 0,u 0,u 0,u 0,u 0,i 0,i 0,u 0,u 0,u 0,u 0,i 0,i 0,i 0,i 0]
noncomputable def d51 : D:=.agg [i 2,i 1,i 1,i 1,u 1,u 0,F,u 4,u 3,u 0,u 0,i 9,i 0,u 0,u 0,u 0,u 0,i 0,i 0,u 0,u 0,u 0,u 0,i 0,i 0,u 0,u 0,u 0,u 0,i 0,i 0,i 0,i 0]
noncomputable def w10 : List D:=[i 0,i 0,i 1,i 1,u 1,u 0,F,u 4,u 3,u 0,u 0,i 10,i 0,u 0,u 0,u 0,u 0,i 0,i 0,u 0,u 0,u 0,u 0,i 0,i 0,u 0,u 0,u 0,u 0,i 0,i 0,i 0,i 0]
noncomputable def w11 : List D:=[i 1,i 2,i 1,i 1,u 1,u 0,F,u 4,u 3,u 0,u 0,i 11,i 0,u 0,u 0,u 0,u 0,i 0,i 0,u 0,u 0,u 0,u 0,i 0,i 0,u 0,u 0,u 0,u 0,i 0,i 0,i 0,i 0]
noncomputable def w12 : List D:=[i 2,i 1,i 1,i 1,u 1,u 0,F,u 4,u 3,u 0,u 0,i 9,i 0,u 0,u 0,u 0,u 0,i 0,i 0,u 0,u 0,u 0,u 0,i 0,i 0,u 0,u 0,u 0,u 0,i 0,i 0,i 0,i 0]
noncomputable def d52 : D:=.tup [.list [w10,w11,w12],i 0]
noncomputable def w13 : List D:=[i 0,i 0,i 1,i 1,u 0,u 0,F,u 0,u 0,u 0,u 0,i 0,i 0,u 0,u 0,u 0,u 0,i 0,i 0,u 0,u 0,u 0,u 0,i 0,i 0,u 0,u 0,u 0,u 0,i 0,i 0,i 0,i 0]
noncomputable def d53 : D:=.tup [.list [w13,w11,w12],i 0]
noncomputable def w14 : List D:=[i 0,i 0,i 1,i 1,u 1,u 0,T,u 4,u 3,u 0,u 0,i 10,i 0,u 0,u 0,u 0,u 0,i 0,i 0,u 0,u 0,u 0,u 0,i 0,i 0,u 0,u 0,u 0,u 0,i 0,i 0,i 0,i 0]
noncomputable def d54 : D:=.tup [.list [w14,w11,w12],i 0]
noncomputable def w15 : List D:=[i 0,i 0,i 1,i 1,u 4,u 0,F,u 0,u 0,u 0,u 0,i 0,i 0,u 0,u 0,u 0,u 0,i 0,i 0,u 0,u 0,u 0,u 0,i 0,i 0,u 0,u 0,u 0,u 0,i 0,i 0,i 60,i 30]
noncomputable def d55 : D:=.tup [.list [w15,w11,w12],i 0]
noncomputable def w16 : List D:=[i 0,i 0,i 1,i 1,u 1,u 2,F,u 4,u 3,u 0,u 0,i 10,i 0,u 0,u 0,u 0,u 0,i 0,i 0,u 0,u 0,u 0,u 0,i 0,i 0,u 0,u 0,u 0,u 0,i 0,i 0,i 0,i 0]
noncomputable def d56 : D:=.tup [.list [w16,w11,w12],i 0]
noncomputable def w17 : List D:=[i 0,i 3,i 1,i 1,u 1,u 0,F,u 4,u 3,u 0,u 0,i 10,i 0,u 0,u 0,u 0,u 0,i 0,i 0,u 0,u 0,u 0,u 0,i 0,i 0,u 0,u 0,u 0,u 0,i 0,i 0,i 0,i 0]
noncomputable def d57 : D:=.tup [.list [w17,w11,w12],i 0]
noncomputable def d58 : D:=.tup [.undef,.tup [.list [w11,w12],i 0]]
noncomputable def w18 : List D:=[i 0,i 0,i 2,i 1,u 1,u 0,F,u 4,u 3,u 0,u 0,i 10,i 0,u 0,u 0,u 0,u 0,i 0,i 0,u 0,u 0,u 0,u 0,i 0,i 0,u 0,u 0,u 0,u 0,i 0,i 0,i 0,i 0]
noncomputable def d59 : D:=.tup [.list [w18,w11,w12],i 0]
noncomputable def w19 : List D:=[i 0,i 0,i 1,i 2,u 1,u 0,F,u 4,u 3,u 0,u 0,i 8,i 0,u 0,u 0,u 0,u 0,i 0,i 0,u 0,u 0,u 0,u 0,i 0,i 0,u 0,u 0,u 0,u 0,i 0,i 0,i 0,i 0]
noncomputable def d60 : D:=.tup [.list [w19,w11,w12],i 0]
noncomputable def w20 : List D:=[i 0,i 0,i 1,i 1,u 1,u 0,F,u 4,u 3,u 0,u 0,i 14,i 0,u 0,u 0,u 0,u 0,i 0,i 0,u 0,u 0,u 0,u 0,i 0,i 0,u 0,u 0,u 0,u 0,i 0,i 0,i 0,i 0]
noncomputable def d61 : D:=.tup [.list [w20,w11,w12],i 0]
noncomputable def w21 : List D:=[i 0,i 0,i 1,i 0,u 1,u 0,F,u 4,u 3,u 0,u 0,i 10,i 0,u 0,u 0,u 0,u 0,i 0,i 0,u 0,u 0,u 0,u 0,i 0,i 0,u 0,u 0,u 0,u 0,i 0,i 0,i 0,i 0]
noncomputable def d62 : D:=.tup [.list [w21,w11,w12],i 0]
noncomputable def w22 : List D:=[i 1,i 2,i 1,i 1,u 0,u 0,F,u 0,u 0,u 0,u 0,i 0,i 0,u 0,u 0,u 0,u 0,i 0,i 0,u 0,u 0,u 0,u 0,i 0,i 0,u 0,u 0,u 0,u 0,i 0,i 0,i 0,i 0]
noncomputable def d63 : D:=.tup [.list [w10,w22,w12],i 0]
noncomputable def w23 : List D:=[i 1,i 2,i 1,i 1,u 1,u 0,T,u 4,u 3,u 0,u 0,i 11,i 0,u 0,u 0,u 0,u 0,i 0,i 0,u 0,u 0,u 0,u 0,i 0,i 0,u 0,u 0,u 0,u 0,i 0,i 0,i 0,i 0]
noncomputable def d64 : D:=.tup [.list [w10,w23,w12],i 0]
noncomputable def w24 : List D:=[i 1,i 2,i 1,i 1,u 4,u 0,F,u 0,u 0,u 0,u 0,i 0,i 0,u 0,u 0,u 0,u 0,i 0,i 0,u 0,u 0,u 0,u 0,i 0,i 0,u 0,u 0,u 0,u 0,i 0,i 0,i 60,i 30]
noncomputable def d65 : D:=.tup [.list [w10,w24,w12],i 0]
noncomputable def w25 : List D:=[i 1,i 2,i 1,i 1,u 1,u 2,F,u 4,u 3,u 0,u 0,i 11,i 0,u 0,u 0,u 0,u 0,i 0,i 0,u 0,u 0,u 0,u 0,i 0,i 0,u 0,u 0,u 0,u 0,i 0,i 0,i 0,i 0]
noncomputable def d66 : D:=.tup [.list [w10,w25,w12],i 0]
noncomputable def w26 : List D:=[i 1,i 3,i 1,i 1,u 1,u 0,F,u 4,u 3,u 0,u 0,i 11,i 0,u 0,u 0,u 0,u 0,i 0,i 0,u 0,u 0,u 0,u 0,i 0,i 0,u 0,u 0,u 0,u 0,i 0,i 0,i 0,i 0]
noncomputable def d67 : D:=.tup [.list [w10,w26,w12],i 0]
noncomputable def d68 : D:=.tup [.undef,.tup [.list [w10,w12],i 0]]
noncomputable def w27 : List D:=[i 1,i 2,i 2,i 1,u 1,u 0,F,u 4,u 3,u 0,u 0,i 11,i 0,u 0,u 0,u 0,u 0,i 0,i 0,u 0,u 0,u 0,u 0,i 0,i 0,u 0,u 0,u 0,u 0,i 0,i 0,i 0,i 0]
noncomputable def d69 : D:=.tup [.list [w10,w27,w12],i 0]
noncomputable def w28 : List D:=[i 1,i 2,i 1,i 2,u 1,u 0,F,u 4,u 3,u 0,u 0,i 8,i 0,u 0,u 0,u 0,u 0,i 0,i 0,u 0,u 0,u 0,u 0,i 0,i 0,u 0,u 0,u 0,u 0,i 0,i 0,i 0,i 0]
noncomputable def d70 : D:=.tup [.list [w10,w28,w12],i 0]
noncomputable def w29 : List D:=[i 1,i 2,i 1,i 1,u 1,u 0,F,u 4,u 3,u 0,u 0,i 14,i 0,u 0,u 0,u 0,u 0,i 0,i 0,u 0,u 0,u 0,u 0,i 0,i 0,u 0,u 0,u 0,u 0,i 0,i 0,i 0,i 0]
noncomputable def d71 : D:=.tup [.list [w10,w29,w12],i 0]
noncomputable def w30 : List D:=[i 1,i 2,i 1,i 0,u 1,u 0,F,u 4,u 3,u 0,u 0,i 11,i 0,u 0,u 0,u 0,u 0,i 0,i 0,u 0,u 0,u 0,u 0,i 0,i 0,u 0,u 0,u 0,u 0,i 0,i 0,i 0,i 0]
noncomputable def d72 : D:=.tup [.list [w10,w30,w12],i 0]
noncomputable def w31 : List D:=[i 2,i 1,i 1,i 1,u 0,u 0,F,u 0,u 0,u 0,u 0,i 0,i 0,u 0,u 0,u 0,u 0,i 0,i 0,u 0,u 0,u 0,u 0,i 0,i 0,u 0,u 0,u 0,u 0,i 0,i 0,i 0,i 0]
noncomputable def d73 : D:=.tup [.list [w10,w11,w31],i 0]
noncomputable def w32 : List D:=[i 2,i 1,i 1,i 1,u 1,u 0,T,u 4,u 3,u 0,u 0,i 9,i 0,u 0,u 0,u 0,u 0,i 0,i 0,u 0,u 0,u 0,u 0,i 0,i 0,u 0,u 0,u 0,u 0,i 0,i 0,i 0,i 0]
noncomputable def d74 : D:=.tup [.list [w10,w11,w32],i 0]
noncomputable def w33 : List D:=[i 2,i 1,i 1,i 1,u 4,u 0,F,u 0,u 0,u 0,u 0,i 0,i 0,u 0,u 0,u 0,u 0,i 0,i 0,u 0,u 0,u 0,u 0,i 0,i 0,u 0,u 0,u 0,u 0,i 0,i 0,i 60,i 30]
noncomputable def d75 : D:=.tup [.list [w10,w11,w33],i 0]
noncomputable def w34 : List D:=[i 2,i 1,i 1,i 1,u 1,u 2,F,u 4,u 3,u 0,u 0,i 9,i 0,u 0,u 0,u 0,u 0,i 0,i 0,u 0,u 0,u 0,u 0,i 0,i 0,u 0,u 0,u 0,u 0,i 0,i 0,i 0,i 0]
noncomputable def d76 : D:=.tup [.list [w10,w11,w34],i 0]
noncomputable def w35 : List D:=[i 2,i 3,i 1,i 1,u 1,u 0,F,u 4,u 3,u 0,u 0,i 9,i 0,u 0,u 0,u 0,u 0,i 0,i 0,u 0,u 0,u 0,u 0,i 0,i 0,u 0,u 0,u 0,u 0,i 0,i 0,i 0,i 0]
noncomputable def d77 : D:=.tup [.list [w10,w11,w35],i 0]
noncomputable def d78 : D:=.tup [.undef,.tup [.list [w10,w11],i 0]]
noncomputable def w36 : List D:=[i 2,i 1,i 2,i 1,u 1,u 0,F,u 4,u 3,u 0,u 0,i 9,i 0,u 0,u 0,u 0,u 0,i 0,i 0,u 0,u 0,u 0,u 0,i 0,i 0,u 0,u 0,u 0,u 0,i 0,i 0,i 0,i 0]
noncomputable def d79 : D:=.tup [.list [w10,w11,w36],i 0]
noncomputable def w37 : List D:=[i 2,i 1,i 1,i 2,u 1,u 0,F,u 4,u 3,u 0,u 0,i 8,i 0,u 0,u 0,u 0,u 0,i 0,i 0,u 0,u 0,u 0,u 0,i 0,i 0,u 0,u 0,u 0,u 0,i 0,i 0,i 0,i 0]
noncomputable def d80 : D:=.tup [.list [w10,w11,w37],i 0]
noncomputable def w38 : List D:=[i 2,i 1,i 1,i 1,u 1,u 0,F,u 4,u 3,u 0,u 0,i 14,i 0,u 0,u 0,u 0,u 0,i 0,i 0,u 0,u 0,u 0,u 0,i 0,i 0,u 0,u 0,u 0,u 0,i 0,i 0,i 0,i 0]
noncomputable def d81 : D:=.tup [.list [w10,w11,w38],i 0]
noncomputable def w39 : List D:=[i 2,i 1,i 1,i 0,u 1,u 0,F,u 4,u 3,u 0,u 0,i 9,i 0,u 0,u 0,u 0,u 0,i 0,i 0,u 0,u 0,u 0,u 0,i 0,i 0,u 0,u 0,u 0,u 0,i 0,i 0,i 0,i 0]
noncomputable def d82 : D:=.tup [.list [w10,w11,w39],i 0]
noncomputable def d83 : D:=.tup [.undef,.tup [.list [w10],i 0]]
noncomputable def d84 : D:=.agg [i 0,i 0,i 0,i 0,i 0,.list [w0],i 1]
noncomputable def d85 : D:=.agg [i 0,i 0,i 0,i 0,i 0,.list [w5],i 1]
noncomputable def d86 : D:=.agg [i 0,i 0,i 0,i 0,i 0,.list [w7],i 1]
noncomputable def d87 : D:=.agg [i 0,i 0,i 1,i 1,u 0,u 0,F,u 0,u 0,u 0,u 0,i 0,i 0,u 0,u 0,u 0,u 0,i 0,i 0,u 0,u 0,u 0,u 0,i 0,i 0,u 0,u 0,u 0,u 0,i 0,i 0,i 0,i 0]
noncomputable def d88 : D:=.agg [i 0,i 0,i 1,i 1,u 1,u 0,T,u 4,u 3,u 0,u 0,i 10,i 0,u 0,u 0,u 0,u 0,i 0,i 0,u 0,u 0,u 0,u 0,i 0,i 0,u 0,u 0,u 0,u 0,i 0,i 0,i 0,i 0]
noncomputable def d89 : D:=.agg [i 0,i 0,i 1,i 1,u 4,u 0,F,u 0,u 0,u 0,u 0,i 0,i 0,u 0,u 0,u 0,u 0,i 0,i 0,u 0,u 0,u 0,u 0,i 0,i 0,u 0,u 0,u 0,u 0,i 0,i 0,i 60,i 30]
noncomputable def d90 : D:=.agg [i 0,i 0,i 1,i 1,u 1,u 2,F,u 4,u 3,u 0,u 0,i 10,i 0,u 0,u 0,u 0,u 0,i 0,i 0,u 0,u 0,u 0,u 0,i 0,i 0,u 0,u 0,u 0,u 0,i 0,i 0,i 0,i 0]
noncomputable def d91 : D:=.agg [i 0,i 0,i 2,i 1,u 1,u 0,F,u 4,u 3,u 0,u 0,i 10,i 0,u 0,u 0,u 0,u 0,i 0,i 0,u 0,u 0,u 0,u 0,i 0,i 0,u 0,u 0,u 0,u 0,i 0,i 0,i 0,i 0]
noncomputable def d92 : D:=.agg [i 0,i 0,i 1,i 2,u 1,u 0,F,u 4,u 3,u 0,u 0,i 8,i 0,u 0,u 0,u 0,u 0,i 0,i 0,u 0,u 0,u 0,u 0,i 0,i 0,u 0,u 0,u 0,u 0,i 0,i 0,i 0,i 0]
noncomputable def d93 : D:=.agg [i 0,i 0,i 1,i 1,u 1,u 0,F,u 4,u 3,u 0,u 0,i 14,i 0,u 0,u 0,u 0,u 0,i 0,i 0,u 0,u 0,u 0,u 0,i 0,i 0,u 0,u 0,u 0,u 0,i 0,i 0,i 0,i 0]
noncomputable def d94 : D:=.agg [i 0,i 0,i 1,i 0,u 1,u 0,F,u 4,u 3,u 0,u 0,i 10,i 0,u 0,u 0,u 0,u 0,i 0,i 0,u 0,u 0,u 0,u 0,i 0,i 0,u 0,u 0,u 0,u 0,i 0,i 0,i 0,i 0]
noncomputable def d95 : D:=.agg [i 1,i 2,i 1,i 1,u 0,u 0,F,u 0,u 0,u 0,u 0,i 0,i 0,u 0,u 0,u 0,u 0,i 0,i 0,u 0,u 0,u 0,u 0,i 0,i 0,u 0,u 0,u 0,u 0,i 0,i 0,i 0,i 0]
noncomputable def d96 : D:=.agg [i 1,i 2,i 1,i 1,u 1,u 0,T,u 4,u 3,u 0,u 0,i 11,i 0,u 0,u 0,u 0,u 0,i 0,i 0,u 0,u 0,u 0,u 0,i 0,i 0,u 0,u 0,u 0,u 0,i 0,i 0,i 0,i 0]
noncomputable def d97 : D:=.agg [i 1,i 2,i 1,i 1,u 4,u 0,F,u 0,u 0,u 0,u 0,i 0,i 0,u 0,u 0,u 0,u 0,i 0,i 0,u 0,u 0,u 0,u 0,i 0,i 0,u 0,u 0,u 0,u 0,i 0,i 0,i 60,i 30]
noncomputable def d98 : D:=.agg [i 1,i 2,i 1,i 1,u 1,u 2,F,u 4,u 3,u 0,u 0,i 11,i 0,u 0,u 0,u 0,u 0,i 0,i 0,u 0,u 0,u 0,u 0,i 0,i 0,u 0,u 0,u 0,u 0,i 0,i 0,i 0,i 0]
noncomputable def d99 : D:=.agg [i 1,i 2,i 2,i 1,u 1,u 0,F,u 4,u 3,u 0,u 0,i 11,i 0,u 0,u 0,u 0,u 0,i 0,i 0,u 0,u 0,u 0,u 0,i 0,i 0,u 0,u 0,u 0,u 0,i 0,i 0,i 0,i 0]
noncomputable def d100 : D:=.agg [i 1,i 2,i 1,i 2,u 1,u 0,F,u 4,u 3,u 0,u 0,i 8,i 0,u 0,u 0,u 0,u 0,i 0,i 0,u 0,u 0,u 0,u 0,i 0,i 0,u 0,u 0,u 0,u 0,i 0,i 0,i 0,i 0]
noncomputable def d101 : D:=.agg [i 1,i 2,i 1,i 1,u 1,u 0,F,u 4,u 3,u 0,u 0,i 14,i 0,u 0,u 0,u 0,u 0,i 0,i 0,u 0,u 0,u 0,u 0,i 0,i 0,u 0,u 0,u 0,u 0,i 0,i 0,i 0,i 0]
noncomputable def d102 : D:=.agg [i 1,i 2,i 1,i 0,u 1,u 0,F,u 4,u 3,u 0,u 0,i 11,i 0,u 0,u 0,u 0,u 0,i 0,i 0,u 0,u 0,u 0,u 0,i 0,i 0,u 0,u 0,u 0,u 0,i 0,i 0,i 0,i 0]
noncomputable def d103 : D:=.agg [i 2,i 1,i 1,i 1,u 0,u 0,F,u 0,u 0,u 0,u 0,i 0,i 0,u 0,u 0,u 0,u 0,i 0,i 0,u 0,u 0,u 0,u 0,i 0,i 0,u 0,u 0,u 0,u 0,i 0,i 0,i 0,i 0]
noncomputable def d104 : D:=.agg [i 2,i 1,i 1,i 1,u 1,u 0,T,u 4,u 3,u 0,u 0,i 9,i 0,u 0,u 0,u 0,u 0,i 0,i 0,u 0,u 0,u 0,u 0,i 0,i 0,u 0,u 0,u 0,u 0,i 0,i 0,i 0,i 0]
noncomputable def d105 : D:=.agg [i 2,i 1,i 1,i 1,u 4,u 0,F,u 0,u 0,u 0,u 0,i 0,i 0,u 0,u 0,u 0,u 0,i 0,i 0,u 0,u 0,u 0,u 0,i 0,i 0,u 0,u 0,u 0,u 0,i 0,i 0,i 60,i 30]
noncomputable def d106 : D:=.agg [i 2,i 1,i 1,i 1,u 1,u 2,F,u 4,u 3,u 0,u 0,i 9,i 0,u 0,u 0,u 0,u 0,i 0,i 0,u 0,u 0,u 0,u 0,i 0,i 0,u 0,u 0,u 0,u 0,i 0,i 0,i 0,i 0]
noncomputable def d107 : D:=.agg [i 2,i 1,i 2,i 1,u 1,u 0,F,u 4,u 3,u 0,u 0,i 9,i 0,u 0,u 0,u 0,u 0,i 0,i 0,u 0,u 0,u 0,u 0,i 0,i 0,u 0,u 0,u 0,u 0,i 0,i 0,i 0,i 0]
noncomputable def d108 : D:=.agg [i 2,i 1,i 1,i 2,u 1,u 0,F,u 4,u 3,u 0,u 0,i 8,i 0,u 0,u 0,u 0,u 0,i 0,i 0,u 0,u 0,u 0,u 0,i 0,i 0,u 0,u 0,u 0,u 0,i 0,i 0,i 0,i 0]
noncomputable def d109 : D:=.agg [i 2,i 1,i 1,i 1,u 1,u 0,F,u 4,u 3,u 0,u 0,i 14,i 0,u 0,u 0,u 0,u 0,i 0,i 0,u 0,u 0,u 0,u 0,i 0,i 0,u 0,u 0,u 0,u 0,i 0,i 0,i 0,i 0]
noncomputable def d110 : D:=.agg [i 2,i 1,i 1,i 0,u 1,u 0,F,u 4,u 3,u 0,u 0,i 9,i 0,u 0,u 0,u 0,u 0,i 0,i 0,u 0,u 0,u 0,u 0,i 0,i 0,u 0,u 0,u 0,u 0,i 0,i 0,i 0,i 0]
noncomputable def d111 : D:=.agg [i 0,i 0,i 0,i 0,i 0,.list [w0],i 2]
noncomputable def d112 : D:=.list [[i 1],[i 2],[i 1],[i 1],[i 1],[i 0],[i 0],[i 4],[i 3],[i 0],[i 0],[i 11],[i 0],[i 0],[i 0],[i 0],[i 0],[i 0],[i 0],[i 0],[i 0],[i 0],[i 0],[i 0],[i 0],[i 0],[i 0],[i 0],[i 0],[i 0],[i 0],[i 0],[i 0]]
noncomputable def d113 : D:=.list [[i 0],[i 0],[i 1],[i 1],[i 1],[i 0],[i 0],[i 4],[i 3],[i 0],[i 0],[i 10],[i 0],[i 0],[i 0],[i 0],[i 0],[i 0],[i 0],[i 0],[i 0],[i 0],[i 0],[i 0],[i 0],[i 0],[i 0],[i 0],[i 0],[i 0],[i 0],[i 0],[i 0]]
noncomputable def d114 : D:=.list [[i 2],[i 1],[i 1],[i 1],[i 1],[i 0],[i 0],[i 4],[i 3],[i 0],[i 0],[i 9],[i 0],[i 0],[i 0],[i 0],[i 0],[i 0],[i 0],[i 0],[i 0],[i 0],[i 0],[i 0],[i 0],[i 0],[i 0],[i 0],[i 0],[i 0],[i 0],[i 0],[i 0]]
noncomputable def d115 : D:=.list [[i 0,i 1,i 2],[i 0,i 2,i 3],[i 1,i 0,i 2],[i 1,i 1,i 3],[i 2,i 0,i 3],[i 2,i 2,i 2]]
noncomputable def d116 : D:=.list [[i 0,i 0,i 1],[i 0,i 1,i 2],[i 0,i 2,i 3],[i 1,i 0,i 2],[i 1,i 1,i 3],[i 2,i 0,i 3],[i 2,i 2,i 2]]
noncomputable def d117 : D:=.list [[i 0,i 1,i 2],[i 0,i 2,i 3],[i 1,i 0,i 2],[i 1,i 1,i 3],[i 1,i 2,i 1],[i 2,i 0,i 3],[i 2,i 2,i 2]]
noncomputable def d118 : D:=.list [[i 0,i 1,i 2],[i 0,i 2,i 3],[i 1,i 0,i 2],[i 1,i 1,i 3],[i 2,i 0,i 3],[i 2,i 1,i 1],[i 2,i 2,i 2]]
noncomputable def d119 : D:=.tup [.undef,.tup [d115,i 0]]
noncomputable def d120 : D:=.tup [.undef,.tup [d116,i 0]]
noncomputable def d121 : D:=.tup [.undef,.tup [d117,i 0]]
noncomputable def d122 : D:=.tup [.undef,.tup [d118,i 0]]
noncomputable def d123 : D:=.agg [i 0,i 0,i 0,i 0,u 0,u 0,F,u 0,u 0,u 0,u 0,i 0,i 0,u 0,u 0,u 0,u 0,i 0,i 0,u 0,u 0,u 0,u 0,i 0,i 0,u 0,u 0,u 0,u 0,i 0,i 0,i 0,i 0]
noncomputable def w40 : List D:=[i 0,i 0,i 1,i 1,i 4,i 2,i 1,i 2,i 1,i 4,T]
noncomputable def w41 : List D:=[i 1,i 2,i 1,i 3,i 5,i 4,i 1,i 0,i 1,i 4,T]
noncomputable def w42 : List D:=[i 2,i 1,i 1,i 2,i 6,i 0,i 1,i 4,i 1,i 4,T]
noncomputable def w43 : List D:=[i 1,i 2,i 1,i 3,i 5,i 2,i 1,i 0,i 1,i 2,T]
noncomputable def w44 : List D:=[i 2,i 1,i 1,i 2,i 6,i 0,i 1,i 2,i 1,i 2,T]
noncomputable def w45 : List D:=[i 0,i 0,i 1,i 1,i 4,i 2,i 1,i 0,i 1,i 2,T]
noncomputable def w46 : List D:=[i 0,i 0,i 1,i 1,i 4,i 0,i 1,i 2,i 1,i 2,T]
noncomputable def d124 : D:=.tup [i 3,.agg [i 3,i 0,i 0,i 0],i 0]
noncomputable def d125 : D:=.tup [i 0,.agg [i 0,i 0,i 0,i 0],i 0]
noncomputable def d126 : D:=.tup [i 2,.agg [i 2,i 0,i 0,i 0],i 0]
noncomputable def d127 : D:=.tup [i 3,.agg [i 2,i 0,i 0,i 0],i 0]
noncomputable def d128 : D:=.tup [i 3,.agg [i 2,i 0,i 1,i 0],i 0]
noncomputable def d129 : D:=.tup [i 1,.agg [i 1,i 0,i 0,i 0],i 0]
noncomputable def d130 : D:=.tup [.list [[i 420,i 100]],.list [[i (-420),i 100]],i 0]
noncomputable def d131 : D:=.tup [.list [[i 450,i 100]],.list [[i (-450),i 100]],i 0]
noncomputable def d132 : D:=.tup [.list [[i (-50),i 100]],.list [[i 50,i 100]],i 0]
noncomputable def d133 : D:=.agg [.v (.int .u64 0),.v (.int .u64 1)]
noncomputable def w47 : List D:=[.list [[i (-50),i 100]]]
noncomputable def d134 : D:=.list [[.list [[i 420,i 100]]],[.list [[i 450,i 100]]],w47]
noncomputable def d135 : D:=.list [[i 2,i 1],[i 4,i 1],[i 0,i 1]]
noncomputable def d136 : D:=.tup [.undef,.tup [d135,i 0]]
noncomputable def w48 : List D:=[.list [[i (-420),i 100]]]
noncomputable def w49 : List D:=[.list [[i (-450),i 100]]]
noncomputable def d137 : D:=.list [w48,w49,[.list [[i 50,i 100]]]]
noncomputable def d138 : D:=.list [[i 2,i 1],[i 0,i 1],[i 4,i 1]]
noncomputable def d139 : D:=.tup [.undef,.tup [d138,i 0]]
noncomputable def d140 : D:=.list [[i 2,i 1,i 2,i 1,T],[i 4,i 1,i 0,i 1,T],[i 0,i 1,i 4,i 1,T]]
noncomputable def d141 : D:=.tup [.undef,.tup [d140,i 0]]
noncomputable def d142 : D:=.list [[i 0,i 0,i 0,i 0,F],[i 2,i 1,i 0,i 1,T],[i 0,i 1,i 2,i 1,T]]
noncomputable def d143 : D:=.tup [.undef,.tup [d142,i 0]]
noncomputable def d144 : D:=.list [[i 12,i 5,i 6,i 5,T],[i 7,i 2,i 1,i 2,T],[i 1,i 2,i 7,i 2,T]]
noncomputable def d145 : D:=.tup [.undef,.tup [d144,i 0]]
noncomputable def d146 : D:=.list [[i 2,i 1,i 2,i 1,T],[i 7,i 2,i 1,i 2,T],[i 1,i 2,i 7,i 2,T]]
noncomputable def d147 : D:=.tup [.undef,.tup [d146,i 0]]
noncomputable def d148 : D:=.list [[i 2,i 1,i 0,i 1,T],[i 0,i 1,i 2,i 1,T]]
noncomputable def d149 : D:=.tup [.undef,.tup [d148,i 0]]
noncomputable def d150 : D:=.list [[i 0,i 1,i 4,i 1,T],[i 4,i 1,i 0,i 1,T],[i 2,i 1,i 2,i 1,T]]
noncomputable def d151 : D:=.tup [.undef,.tup [d150,i 0]]
noncomputable def d152 : D:=.list [[i 2,i 1,i 0,i 1,T],[i 0,i 0,i 0,i 0,F],[i 0,i 1,i 2,i 1,T]]
noncomputable def d153 : D:=.tup [.undef,.tup [d152,i 0]]
noncomputable def d154 : D:=.list [[i 7,i 2,i 1,i 2,T],[i 12,i 5,i 6,i 5,T],[i 1,i 2,i 7,i 2,T]]
noncomputable def d155 : D:=.tup [.undef,.tup [d154,i 0]]
noncomputable def d156 : D:=.list [[i 7,i 2,i 1,i 2,T],[i 2,i 1,i 2,i 1,T],[i 1,i 2,i 7,i 2,T]]
noncomputable def d157 : D:=.tup [.undef,.tup [d156,i 0]]
noncomputable def d158 : D:=.list [[i 4,i 1,i 0,i 1,T],[i 0,i 1,i 4,i 1,T],[i 2,i 1,i 2,i 1,T]]
noncomputable def d159 : D:=.tup [.undef,.tup [d158,i 0]]
noncomputable def d160 : D:=.list [[i 0,i 1,i 2,i 1,T],[i 2,i 1,i 0,i 1,T],[i 0,i 0,i 0,i 0,F]]
noncomputable def d161 : D:=.tup [.undef,.tup [d160,i 0]]
noncomputable def d162 : D:=.list [[i 1,i 2,i 7,i 2,T],[i 7,i 2,i 1,i 2,T],[i 12,i 5,i 6,i 5,T]]
noncomputable def d163 : D:=.tup [.undef,.tup [d162,i 0]]
noncomputable def d164 : D:=.list [[i 1,i 2,i 7,i 2,T],[i 7,i 2,i 1,i 2,T],[i 2,i 1,i 2,i 1,T]]
noncomputable def d165 : D:=.tup [.undef,.tup [d164,i 0]]
noncomputable def d166 : D:=.list [[i 0,i 1,i 2,i 1,T],[i 2,i 1,i 0,i 1,T]]
noncomputable def d167 : D:=.tup [.undef,.tup [d166,i 0]]
noncomputable def d168 : D:=.tup [.list [w40,w41,w42],i 0]
noncomputable def d169 : D:=.tup [.undef,.tup [.list [w43,w44],i 0]]
noncomputable def w50 : List D:=[i 0,i 0,i 1,i 4,i 1,i 2,i 1,i 2,i 1,i 4,T]
noncomputable def d170 : D:=.tup [.list [w50,w41,w42],i 0]
noncomputable def w51 : List D:=[i 0,i 0,i 1,i 1,i 4,i 12,i 5,i 6,i 5,i 4,T]
noncomputable def w52 : List D:=[i 1,i 2,i 1,i 3,i 5,i 7,i 2,i 1,i 2,i 4,T]
noncomputable def w53 : List D:=[i 2,i 1,i 1,i 2,i 6,i 1,i 2,i 7,i 2,i 4,T]
noncomputable def d171 : D:=.tup [.list [w51,w52,w53],i 0]
noncomputable def d172 : D:=.tup [.list [w40,w52,w53],i 0]
noncomputable def w54 : List D:=[i 0,i 0,i 1,i 1,i 4,i 0,i 1,i 4,i 1,i 4,T]
noncomputable def w55 : List D:=[i 2,i 1,i 1,i 2,i 6,i 2,i 1,i 2,i 1,i 4,T]
noncomputable def d173 : D:=.tup [.list [w54,w41,w55],i 0]
noncomputable def d174 : D:=.tup [.undef,.tup [.list [w45,w44],i 0]]
noncomputable def w56 : List D:=[i 1,i 2,i 1,i 5,i 3,i 4,i 1,i 0,i 1,i 4,T]
noncomputable def d175 : D:=.tup [.list [w40,w56,w42],i 0]
noncomputable def w57 : List D:=[i 0,i 0,i 1,i 1,i 4,i 7,i 2,i 1,i 2,i 4,T]
noncomputable def w58 : List D:=[i 1,i 2,i 1,i 3,i 5,i 12,i 5,i 6,i 5,i 4,T]
noncomputable def d176 : D:=.tup [.list [w57,w58,w53],i 0]
noncomputable def w59 : List D:=[i 1,i 2,i 1,i 3,i 5,i 2,i 1,i 2,i 1,i 4,T]
noncomputable def d177 : D:=.tup [.list [w57,w59,w53],i 0]
noncomputable def w60 : List D:=[i 0,i 0,i 1,i 1,i 4,i 4,i 1,i 0,i 1,i 4,T]
noncomputable def w61 : List D:=[i 1,i 2,i 1,i 3,i 5,i 0,i 1,i 4,i 1,i 4,T]
noncomputable def d178 : D:=.tup [.list [w60,w61,w55],i 0]
noncomputable def d179 : D:=.tup [.undef,.tup [.list [w46,w43],i 0]]
noncomputable def w62 : List D:=[i 2,i 1,i 1,i 6,i 2,i 0,i 1,i 4,i 1,i 4,T]
noncomputable def d180 : D:=.tup [.list [w40,w41,w62],i 0]
noncomputable def w63 : List D:=[i 0,i 0,i 1,i 1,i 4,i 1,i 2,i 7,i 2,i 4,T]
noncomputable def w64 : List D:=[i 2,i 1,i 1,i 2,i 6,i 12,i 5,i 6,i 5,i 4,T]
noncomputable def d181 : D:=.tup [.list [w63,w52,w64],i 0]
noncomputable def d182 : D:=.tup [.list [w63,w52,w55],i 0]
noncomputable def d183 : D:=.list [[i 0,i 1,i 0,i 1,F]]
noncomputable def d184 : D:=.tup [.undef,.tup [d183,i 0]]
noncomputable def d185 : D:=.agg [i 3,i 3,i 3,i 1,i 2,d28]
noncomputable def d186 : D:=.agg [i 3,i 3,i 3,i 1,i 2,d30]
noncomputable def d187 : D:=.agg [i 3,i 3,i 3,i 1,i 2,d32]
noncomputable def d188 : D:=.agg [i 0,i 0,i 0,i 0,i 0,.list []]
noncomputable def d189 : D:=.agg [i 3,i 3,i 3,i 1,i 2,d24,i 43]
noncomputable def d190 : D:=.agg [i 3,i 3,i 3,i 1,i 2,d24,i 0]
noncomputable def d191 : D:=.list [[i 6,i 1,i 6,i 1],[i 0,i 1,i 0,i 1],[i 0,i 1,i 0,i 1],[i 0,i 1,i 0,i 1]]
noncomputable def d192 : D:=.tup [.agg [i 6,i 1,i 6,i 1],i 0]
noncomputable def d193 : D:=.list [[i 2,i 1,i 2,i 1],[i 0,i 1,i 0,i 1],[i 0,i 1,i 0,i 1],[i 0,i 1,i 0,i 1]]
noncomputable def d194 : D:=.tup [.agg [i 2,i 1,i 2,i 1],i 0]
noncomputable def d195 : D:=.list [[i 4,i 1,i 4,i 1],[i 0,i 1,i 0,i 1],[i 0,i 1,i 0,i 1],[i 0,i 1,i 0,i 1],[i 12,i 5,i 6,i 5]]
noncomputable def d196 : D:=.tup [.agg [i 32,i 5,i 26,i 5],i 0]
noncomputable def d197 : D:=.list [[i 4,i 1,i 4,i 1],[i 0,i 1,i 0,i 1],[i 2,i 1,i 2,i 1],[i 0,i 1,i 0,i 1]]
noncomputable def d198 : D:=.tup [.agg [i 0,i 1],.agg [i 0,i 1],i 0]
noncomputable def d199 : D:=.tup [.list [w11,w12],.list [w17],i 0]
noncomputable def d200 : D:=.tup [.list [w10,w12],.list [w26],i 0]
noncomputable def d201 : D:=.tup [.list [w10,w12],.list [w27],i 0]
noncomputable def d202 : D:=.tup [.list [w10,w12],.list [w30],i 0]
noncomputable def d203 : D:=.tup [.list [w10,w11],.list [w35],i 0]
noncomputable def d204 : D:=.tup [.list [w10,w11],.list [w36],i 0]
noncomputable def k18 : L:=[⟨[d84,d50],i 0⟩,
 ⟨[d85,d49],i 0⟩,
 ⟨[d86,d51],i 0⟩,
 ⟨[d84,d87],i 0⟩,
 ⟨[d84,d88],i 0⟩,
 ⟨[d84,d89],i 0⟩,
 ⟨[d84,d90],i 0⟩,
 ⟨[d84,d91],i 311⟩,
 ⟨[d84,d92],i 0⟩,
 ⟨[d84,d93],i 313⟩,
 ⟨[d84,d94],i 312⟩,
 ⟨[d85,d95],i 0⟩,
 ⟨[d85,d96],i 0⟩,
 ⟨[d85,d97],i 0⟩,
 ⟨[d85,d98],i 0⟩,
 ⟨[d85,d99],i 311⟩,
 ⟨[d85,d100],i 0⟩,
 ⟨[d85,d101],i 313⟩,
 ⟨[d85,d102],i 312⟩,
 ⟨[d86,d103],i 0⟩,
 ⟨[d86,d104],i 0⟩,
 ⟨[d86,d105],i 0⟩,
 ⟨[d86,d106],i 0⟩,
 ⟨[d86,d107],i 311⟩,
 ⟨[d86,d108],i 0⟩,
 ⟨[d86,d109],i 313⟩,
 ⟨[d86,d110],i 312⟩,
 ⟨[d111,d50],i 0⟩]
noncomputable def k95 : L:=[⟨[.list [[i 0],[i 0],[i 0]]],i 0⟩]
noncomputable def k96 : L:=[⟨[i 0,i 0],i 0⟩,
 ⟨[i 1,i 0],i 1⟩,
 ⟨[i 2,i 1],i 1⟩,
 ⟨[i 2,i 0],i 1⟩,
 ⟨[i 2,i 2],i 0⟩,
 ⟨[i 1,i 1],i 0⟩,
 ⟨[i 1,i 2],i (-1)⟩]
noncomputable def k82 : L:=[⟨[d49,d50],i 1⟩,
 ⟨[d50,d50],i 0⟩,
 ⟨[d49,d49],i 0⟩,
 ⟨[d51,d51],i 0⟩]
noncomputable def k20 : L:=[⟨[.list [w10,w11,w12]],.tup [.undef,d52]⟩,
 ⟨[.list [w13,w11,w12]],.tup [.undef,d53]⟩,
 ⟨[.list [w14,w11,w12]],.tup [.undef,d54]⟩,
 ⟨[.list [w15,w11,w12]],.tup [.undef,d55]⟩,
 ⟨[.list [w16,w11,w12]],.tup [.undef,d56]⟩,
 ⟨[.list [w17,w11,w12]],.tup [.undef,d57]⟩,
 ⟨[.list [w11,w12]],d58⟩,
 ⟨[.list [w18,w11,w12]],.tup [.undef,d59]⟩,
 ⟨[.list [w10,w19,w11,w12]],.tup [.undef,d60]⟩,
 ⟨[.list [w20,w11,w12]],.tup [.undef,d61]⟩,
 ⟨[.list [w21,w11,w12]],.tup [.undef,d62]⟩,
 ⟨[.list [w10,w22,w12]],.tup [.undef,d63]⟩,
 ⟨[.list [w10,w23,w12]],.tup [.undef,d64]⟩,
 ⟨[.list [w10,w24,w12]],.tup [.undef,d65]⟩,
 ⟨[.list [w10,w25,w12]],.tup [.undef,d66]⟩,
 ⟨[.list [w10,w26,w12]],.tup [.undef,d67]⟩,
 ⟨[.list [w10,w12]],d68⟩,
 ⟨[.list [w10,w27,w12]],.tup [.undef,d69]⟩,
 ⟨[.list [w10,w11,w28,w12]],.tup [.undef,d70]⟩,
 ⟨[.list [w10,w29,w12]],.tup [.undef,d71]⟩,
 ⟨[.list [w10,w30,w12]],.tup [.undef,d72]⟩,
 ⟨[.list [w10,w11,w31]],.tup [.undef,d73]⟩,
 ⟨[.list [w10,w11,w32]],.tup [.undef,d74]⟩,
 ⟨[.list [w10,w11,w33]],.tup [.undef,d75]⟩,
 ⟨[.list [w10,w11,w34]],.tup [.undef,d76]⟩,
 ⟨[.list [w10,w11,w35]],.tup [.undef,d77]⟩,
 ⟨[.list [w10,w11]],d78⟩,
 ⟨[.list [w10,w11,w36]],.tup [.undef,d79]⟩,
 ⟨[.list [w10,w11,w12,w37]],.tup [.undef,d80]⟩,
 ⟨[.list [w10,w11,w38]],.tup [.undef,d81]⟩,
 ⟨[.list [w10,w11,w39]],.tup [.undef,d82]⟩,
 ⟨[.list [w10]],d83⟩]
noncomputable def k226 : L:=[⟨[i 0,i 3],F⟩,
 ⟨[i 1,i 3],F⟩,
 ⟨[i 2,i 3],F⟩]
noncomputable def k90 : L:=[⟨[d25,i 9223372036854775807],.tup [T,i 0]⟩]
noncomputable def k54 : L:=[⟨[d26],i 0⟩,
 ⟨[d27],i 0⟩,
 ⟨[d29],i 281⟩,
 ⟨[d31],i 0⟩,
 ⟨[d33],i 0⟩,
 ⟨[d34],i 280⟩]
noncomputable def k47 : L:=[⟨[d26,.list [w10,w11,w12]],d52⟩,
 ⟨[d26,.list [w13,w11,w12]],d53⟩,
 ⟨[d26,.list [w14,w11,w12]],d54⟩,
 ⟨[d26,.list [w15,w11,w12]],d55⟩,
 ⟨[d26,.list [w16,w11,w12]],d56⟩,
 ⟨[d26,.list [w17,w11,w12]],.tup [.list [w11,w12],i 0]⟩,
 ⟨[d26,.list [w18,w11,w12]],.tup [.list [w11,w12],i 0]⟩,
 ⟨[d26,.list [w10,w19,w11,w12]],d60⟩,
 ⟨[d26,.list [w20,w11,w12]],.tup [.list [w11,w12],i 0]⟩,
 ⟨[d26,.list [w21,w11,w12]],.tup [.list [w11,w12],i 0]⟩,
 ⟨[d26,.list [w10,w22,w12]],d63⟩,
 ⟨[d26,.list [w10,w23,w12]],d64⟩,
 ⟨[d26,.list [w10,w24,w12]],d65⟩,
 ⟨[d26,.list [w10,w25,w12]],d66⟩,
 ⟨[d26,.list [w10,w26,w12]],.tup [.list [w10,w12],i 0]⟩,
 ⟨[d26,.list [w10,w27,w12]],.tup [.list [w10,w12],i 0]⟩,
 ⟨[d26,.list [w10,w11,w28,w12]],d70⟩,
 ⟨[d26,.list [w10,w29,w12]],.tup [.list [w10,w12],i 0]⟩,
 ⟨[d26,.list [w10,w30,w12]],.tup [.list [w10,w12],i 0]⟩,
 ⟨[d26,.list [w10,w11,w31]],d73⟩,
 ⟨[d26,.list [w10,w11,w32]],d74⟩,
 ⟨[d26,.list [w10,w11,w33]],d75⟩,
 ⟨[d26,.list [w10,w11,w34]],d76⟩,
 ⟨[d26,.list [w10,w11,w35]],.tup [.list [w10,w11],i 0]⟩,
 ⟨[d26,.list [w10,w11,w36]],.tup [.list [w10,w11],i 0]⟩,
 ⟨[d26,.list [w10,w11,w12,w37]],d80⟩,
 ⟨[d26,.list [w10,w11,w38]],.tup [.list [w10,w11],i 0]⟩,
 ⟨[d26,.list [w10,w11,w39]],.tup [.list [w10,w11],i 0]⟩,
 ⟨[d27,.list [w10,w11,w12]],d52⟩]
noncomputable def k59 : L:=[⟨[d50],.agg [i 0,i 0,i 1]⟩,
 ⟨[d49],.agg [i 1,i 2,i 1]⟩,
 ⟨[d51],.agg [i 2,i 1,i 1]⟩]
noncomputable def k86 : L:=[⟨[i 1],.tup [u 0,i 0]⟩,
 ⟨[i 2],.tup [u 1,i 0]⟩]
noncomputable def k286 : L:=[⟨[.agg [u 4,u 3,u 0,u 0]],T⟩]
noncomputable def k149 : L:=[⟨[d50],T⟩,
 ⟨[d49],T⟩,
 ⟨[d51],T⟩]
noncomputable def k181 : L:=[⟨[d50],T⟩,
 ⟨[d49],T⟩,
 ⟨[d51],T⟩]
noncomputable def k264 : L:=[⟨[.agg [u 4,u 3,u 0,u 0],i 8,F],.tup [i (-100),i 0]⟩]
noncomputable def k88 : L:=[⟨[.list [w10,w11,w12]],d124⟩,
 ⟨[.list []],d125⟩,
 ⟨[.list [w13,w11,w12]],d126⟩,
 ⟨[.list [w14,w11,w12]],d124⟩,
 ⟨[.list [w15,w11,w12]],d127⟩,
 ⟨[.list [w16,w11,w12]],d128⟩,
 ⟨[.list [w11,w12]],d126⟩,
 ⟨[.list [w19,w11,w12]],d124⟩,
 ⟨[.list [w10,w22,w12]],d126⟩,
 ⟨[.list [w10,w23,w12]],d124⟩,
 ⟨[.list [w10,w24,w12]],d127⟩,
 ⟨[.list [w10,w25,w12]],d128⟩,
 ⟨[.list [w10,w12]],d126⟩,
 ⟨[.list [w10,w28,w12]],d124⟩,
 ⟨[.list [w10,w11,w31]],d126⟩,
 ⟨[.list [w10,w11,w32]],d124⟩,
 ⟨[.list [w10,w11,w33]],d127⟩,
 ⟨[.list [w10,w11,w34]],d128⟩,
 ⟨[.list [w10,w11]],d126⟩,
 ⟨[.list [w10,w11,w37]],d124⟩,
 ⟨[.list [w10]],d129⟩]
noncomputable def k150 : L:=[⟨[i 60,i 3],.tup [.agg [i 12,i 5],i 0]⟩,
 ⟨[i 30,i 3],.tup [.agg [i 6,i 5],i 0]⟩]
noncomputable def k259 : L:=[⟨[.list [[i 420,i 100]]],T⟩,
 ⟨[.list [[i 450,i 100]]],T⟩,
 ⟨[.list [[i (-50),i 100]]],T⟩]
noncomputable def k178 : L:=[⟨[d50,u 0],d130⟩,
 ⟨[d49,u 0],d131⟩,
 ⟨[d51,u 0],d132⟩]
noncomputable def k102 : L:=[⟨[.v (.int .u64 1),.v (.int .u64 1)],d133⟩]
noncomputable def k279 : L:=[⟨[.agg [i 0,i 1],.lptr [i 1]],.tup [.agg [i 1,i 1],i 0]⟩]
noncomputable def k225 : L:=[⟨[.agg [i 2,i 1],i 3,i 3],.tup [.agg [i 2,i 1],i 0]⟩,
 ⟨[.agg [i 4,i 1],i 3,i 3],.tup [.agg [i 4,i 1],i 0]⟩,
 ⟨[.agg [i 0,i 1],i 3,i 3],.tup [.agg [i 0,i 1],i 0]⟩,
 ⟨[.agg [i 2,i 1],i 2,i 2],.tup [.agg [i 2,i 1],i 0]⟩,
 ⟨[.agg [i 0,i 1],i 2,i 2],.tup [.agg [i 0,i 1],i 0]⟩,
 ⟨[.agg [i 2,i 1],i 2,i 3],.tup [.agg [i 7,i 2],i 0]⟩,
 ⟨[.agg [i 0,i 1],i 2,i 3],.tup [.agg [i 1,i 2],i 0]⟩,
 ⟨[.agg [i 0,i 1],i 1,i 3],.tup [.agg [i 2,i 1],i 0]⟩]
noncomputable def k244 : L:=[⟨[i 20000,i 10000],.tup [.agg [i 2,i 1],i 0]⟩,
 ⟨[i 0,i 10000],.tup [.agg [i 0,i 1],i 0]⟩]
noncomputable def k179 : L:=[⟨[d134,i 3],d136⟩,
 ⟨[d137,i 3],d139⟩,
 ⟨[.list [],i 3],d47⟩]
noncomputable def k87 : L:=[⟨[.list [w10,w11,w12],u 0],d141⟩,
 ⟨[.list [],u 1],d47⟩,
 ⟨[.list [],u 2],d47⟩,
 ⟨[.list [w13,w11,w12],u 0],d143⟩,
 ⟨[.list [w14,w11,w12],u 0],d141⟩,
 ⟨[.list [w15,w11,w12],u 0],d145⟩,
 ⟨[.list [w16,w11,w12],u 0],d147⟩,
 ⟨[.list [w11,w12],u 0],d149⟩,
 ⟨[.list [w19,w11,w12],u 0],d151⟩,
 ⟨[.list [w10,w22,w12],u 0],d153⟩,
 ⟨[.list [w10,w23,w12],u 0],d141⟩,
 ⟨[.list [w10,w24,w12],u 0],d155⟩,
 ⟨[.list [w10,w25,w12],u 0],d157⟩,
 ⟨[.list [w10,w12],u 0],d149⟩,
 ⟨[.list [w10,w28,w12],u 0],d159⟩,
 ⟨[.list [w10,w11,w31],u 0],d161⟩,
 ⟨[.list [w10,w11,w32],u 0],d141⟩,
 ⟨[.list [w10,w11,w33],u 0],d163⟩,
 ⟨[.list [w10,w11,w34],u 0],d165⟩,
 ⟨[.list [w10,w11],u 0],d167⟩,
 ⟨[.list [w10,w11,w37],u 0],d141⟩]
noncomputable def k16 : L:=[⟨[d26,.list [w10,w11,w12]],.tup [.undef,d168]⟩,
 ⟨[d26,.list [w13,w11,w12]],d169⟩,
 ⟨[d26,.list [w14,w11,w12]],.tup [.undef,d170]⟩,
 ⟨[d26,.list [w15,w11,w12]],.tup [.undef,d171]⟩,
 ⟨[d26,.list [w16,w11,w12]],.tup [.undef,d172]⟩,
 ⟨[d26,.list [w17,w11,w12]],d169⟩,
 ⟨[d26,.list [w18,w11,w12]],d169⟩,
 ⟨[d26,.list [w10,w19,w11,w12]],.tup [.undef,d173]⟩,
 ⟨[d26,.list [w20,w11,w12]],d169⟩,
 ⟨[d26,.list [w21,w11,w12]],d169⟩,
 ⟨[d26,.list [w10,w22,w12]],d174⟩,
 ⟨[d26,.list [w10,w23,w12]],.tup [.undef,d175]⟩,
 ⟨[d26,.list [w10,w24,w12]],.tup [.undef,d176]⟩,
 ⟨[d26,.list [w10,w25,w12]],.tup [.undef,d177]⟩,
 ⟨[d26,.list [w10,w26,w12]],d174⟩,
 ⟨[d26,.list [w10,w27,w12]],d174⟩,
 ⟨[d26,.list [w10,w11,w28,w12]],.tup [.undef,d178]⟩,
 ⟨[d26,.list [w10,w29,w12]],d174⟩,
 ⟨[d26,.list [w10,w30,w12]],d174⟩,
 ⟨[d26,.list [w10,w11,w31]],d179⟩,
 ⟨[d26,.list [w10,w11,w32]],.tup [.undef,d180]⟩,
 ⟨[d26,.list [w10,w11,w33]],.tup [.undef,d181]⟩,
 ⟨[d26,.list [w10,w11,w34]],.tup [.undef,d182]⟩,
 ⟨[d26,.list [w10,w11,w35]],d179⟩,
 ⟨[d26,.list [w10,w11,w36]],d179⟩,
 ⟨[d26,.list [w10,w11,w12,w37]],.tup [.undef,d168]⟩,
 ⟨[d26,.list [w10,w11,w38]],d179⟩,
 ⟨[d26,.list [w10,w11,w39]],d179⟩]
noncomputable def k21 : L:=[⟨[d26],d36⟩,
 ⟨[d27],d38⟩,
 ⟨[d31],d40⟩,
 ⟨[d33],d36⟩]
noncomputable def k22 : L:=[⟨[d26,.list [w10,w11,w12]],d119⟩,
 ⟨[d26,.list [w13,w11,w12]],d120⟩,
 ⟨[d26,.list [w14,w11,w12]],d119⟩,
 ⟨[d26,.list [w15,w11,w12]],d119⟩,
 ⟨[d26,.list [w16,w11,w12]],d119⟩,
 ⟨[d26,.list [w17,w11,w12]],d120⟩,
 ⟨[d26,.list [w18,w11,w12]],d120⟩,
 ⟨[d26,.list [w10,w19,w11,w12]],d119⟩,
 ⟨[d26,.list [w20,w11,w12]],d120⟩,
 ⟨[d26,.list [w21,w11,w12]],d120⟩,
 ⟨[d26,.list [w10,w22,w12]],d121⟩,
 ⟨[d26,.list [w10,w23,w12]],d119⟩,
 ⟨[d26,.list [w10,w24,w12]],d119⟩,
 ⟨[d26,.list [w10,w25,w12]],d119⟩,
 ⟨[d26,.list [w10,w26,w12]],d121⟩,
 ⟨[d26,.list [w10,w27,w12]],d121⟩,
 ⟨[d26,.list [w10,w11,w28,w12]],d119⟩,
 ⟨[d26,.list [w10,w29,w12]],d121⟩,
 ⟨[d26,.list [w10,w30,w12]],d121⟩,
 ⟨[d26,.list [w10,w11,w31]],d122⟩,
 ⟨[d26,.list [w10,w11,w32]],d119⟩,
 ⟨[d26,.list [w10,w11,w33]],d119⟩,
 ⟨[d26,.list [w10,w11,w34]],d119⟩,
 ⟨[d26,.list [w10,w11,w35]],d122⟩,
 ⟨[d26,.list [w10,w11,w36]],d122⟩,
 ⟨[d26,.list [w10,w11,w12,w37]],d119⟩,
 ⟨[d26,.list [w10,w11,w38]],d122⟩,
 ⟨[d26,.list [w10,w11,w39]],d122⟩]
noncomputable def k25 : L:=[⟨[.agg [i 6,i 1],.agg [i 0,i 1]],.tup [.agg [i 6,i 1],i 0]⟩,
 ⟨[.agg [i 0,i 1],.agg [i 0,i 1]],.tup [.agg [i 0,i 1],i 0]⟩,
 ⟨[.agg [i 2,i 1],.agg [i 0,i 1]],.tup [.agg [i 2,i 1],i 0]⟩,
 ⟨[.agg [i 0,i 1],.agg [i 4,i 1]],.tup [.agg [i 4,i 1],i 0]⟩,
 ⟨[.agg [i 4,i 1],.agg [i 0,i 1]],.tup [.agg [i 4,i 1],i 0]⟩]
noncomputable def k74 : L:=[⟨[d26,i 1,i 2],.tup [d46,T]⟩,
 ⟨[d26,i 2,i 1],.tup [d48,T]⟩]
noncomputable def k67 : L:=[⟨[d26],.tup [.undef,d35]⟩,
 ⟨[d27],.tup [.undef,d37]⟩,
 ⟨[d31],.tup [.undef,d39]⟩,
 ⟨[d33],.tup [.undef,d35]⟩]
noncomputable def k157 : L:=[⟨[d41],T⟩,
 ⟨[d42],T⟩,
 ⟨[d43],T⟩,
 ⟨[d44],T⟩,
 ⟨[d45],T⟩,
 ⟨[d46],T⟩]
noncomputable def k156 : L:=[⟨[d25,i 1],d47⟩]
noncomputable def k110 : L:=[⟨[d26],i 0⟩,
 ⟨[d27],i 0⟩,
 ⟨[d29],i 281⟩,
 ⟨[d31],i 0⟩,
 ⟨[d33],i 0⟩]
noncomputable def k28 : L:=[⟨[d26],.tup [d35,i 0]⟩]
noncomputable def k204 : L:=[⟨[d49],.tup [.undef,d112]⟩,
 ⟨[d50],.tup [.undef,d113]⟩,
 ⟨[d51],.tup [.undef,d114]⟩]
noncomputable def k66 : L:=[⟨[d26,.list [w13,w11,w12]],i 0⟩,
 ⟨[d26,.list [w14,w11,w12]],i 0⟩,
 ⟨[d26,.list [w15,w11,w12]],i 0⟩,
 ⟨[d26,.list [w16,w11,w12]],i 0⟩,
 ⟨[d26,.list [w17,w11,w12]],i 0⟩,
 ⟨[d26,.list [w18,w11,w12]],i 0⟩,
 ⟨[d26,.list [w10,w19,w11,w12]],i 0⟩,
 ⟨[d26,.list [w20,w11,w12]],i 0⟩,
 ⟨[d26,.list [w21,w11,w12]],i 0⟩,
 ⟨[d26,.list [w10,w22,w12]],i 0⟩,
 ⟨[d26,.list [w10,w23,w12]],i 0⟩,
 ⟨[d26,.list [w10,w24,w12]],i 0⟩,
 ⟨[d26,.list [w10,w25,w12]],i 0⟩,
 ⟨[d26,.list [w10,w26,w12]],i 0⟩,
 ⟨[d26,.list [w10,w27,w12]],i 0⟩,
 ⟨[d26,.list [w10,w11,w28,w12]],i 0⟩,
 ⟨[d26,.list [w10,w29,w12]],i 0⟩,
 ⟨[d26,.list [w10,w30,w12]],i 0⟩,
 ⟨[d26,.list [w10,w11,w31]],i 0⟩,
 ⟨[d26,.list [w10,w11,w32]],i 0⟩,
 ⟨[d26,.list [w10,w11,w33]],i 0⟩,
 ⟨[d26,.list [w10,w11,w34]],i 0⟩,
 ⟨[d26,.list [w10,w11,w35]],i 0⟩,
 ⟨[d26,.list [w10,w11,w36]],i 0⟩,
 ⟨[d26,.list [w10,w11,w12,w37]],i 0⟩,
 ⟨[d26,.list [w10,w11,w38]],i 0⟩,
 ⟨[d26,.list [w10,w11,w39]],i 0⟩]
noncomputable def k112 : L:=[⟨[d49],T⟩,
 ⟨[d51],T⟩]
noncomputable def k68 : L:=[⟨[d26,d50],i 0⟩,
 ⟨[d26,d49],i 0⟩,
 ⟨[d26,d51],i 0⟩,
 ⟨[d26,d89],i 0⟩,
 ⟨[d26,d97],i 0⟩,
 ⟨[d26,d103],i 0⟩,
 ⟨[d26,d104],i 0⟩,
 ⟨[d26,d105],i 0⟩,
 ⟨[d26,d106],i 0⟩,
 ⟨[d26,d108],i 0⟩,
 ⟨[d31,d51],i 0⟩,
 ⟨[d33,d50],i 0⟩]
noncomputable def k29 : L:=[⟨[d26,.list [w17,w11,w12]],.tup [.undef,d199]⟩,
 ⟨[d26,.list [w10,w26,w12]],.tup [.undef,d200]⟩,
 ⟨[d26,.list [w10,w27,w12]],.tup [.undef,d201]⟩,
 ⟨[d26,.list [w10,w30,w12]],.tup [.undef,d202]⟩,
 ⟨[d26,.list [w10,w11,w35]],.tup [.undef,d203]⟩,
 ⟨[d26,.list [w10,w11,w36]],.tup [.undef,d204]⟩]
noncomputable def k30 : L:=[⟨[d35,d35],T⟩,
 ⟨[d115,d115],T⟩,
 ⟨[d116,d116],T⟩,
 ⟨[d117,d117],T⟩,
 ⟨[d118,d118],T⟩]
noncomputable def k31 : L:=[⟨[.list [w10,w11,w12],.list [w10,w11,w12]],T⟩,
 ⟨[.list [],.list []],T⟩,
 ⟨[.list [w13,w11,w12],.list [w13,w11,w12]],T⟩,
 ⟨[.list [w14,w11,w12],.list [w14,w11,w12]],T⟩,
 ⟨[.list [w15,w11,w12],.list [w15,w11,w12]],T⟩,
 ⟨[.list [w16,w11,w12],.list [w16,w11,w12]],T⟩,
 ⟨[.list [w11,w12],.list [w11,w12]],T⟩,
 ⟨[.list [w10,w19,w11,w12],.list [w10,w19,w11,w12]],T⟩,
 ⟨[.list [w10,w22,w12],.list [w10,w22,w12]],T⟩,
 ⟨[.list [w10,w23,w12],.list [w10,w23,w12]],T⟩,
 ⟨[.list [w10,w24,w12],.list [w10,w24,w12]],T⟩,
 ⟨[.list [w10,w25,w12],.list [w10,w25,w12]],T⟩,
 ⟨[.list [w10,w12],.list [w10,w12]],T⟩,
 ⟨[.list [w10,w11,w28,w12],.list [w10,w11,w28,w12]],T⟩,
 ⟨[.list [w10,w11,w31],.list [w10,w11,w31]],T⟩,
 ⟨[.list [w10,w11,w32],.list [w10,w11,w32]],T⟩,
 ⟨[.list [w10,w11,w33],.list [w10,w11,w33]],T⟩,
 ⟨[.list [w10,w11,w34],.list [w10,w11,w34]],T⟩,
 ⟨[.list [w10,w11],.list [w10,w11]],T⟩,
 ⟨[.list [w10,w11,w12,w37],.list [w10,w11,w12,w37]],T⟩]
noncomputable def k69 : L:=[⟨[d26,.list [w10,w11,w12],.agg [i 0,i 1,i 2]],.tup [d123,F]⟩,
 ⟨[d26,.list [w10,w11,w12],.agg [i 0,i 2,i 3]],.tup [d123,F]⟩,
 ⟨[d26,.list [w10,w11,w12],.agg [i 1,i 0,i 2]],.tup [d123,F]⟩,
 ⟨[d26,.list [w10,w11,w12],.agg [i 1,i 1,i 3]],.tup [d123,F]⟩,
 ⟨[d26,.list [w10,w11,w12],.agg [i 2,i 0,i 3]],.tup [d123,F]⟩,
 ⟨[d26,.list [w10,w11,w12],.agg [i 2,i 2,i 2]],.tup [d123,F]⟩,
 ⟨[d26,.list [w13,w11,w12],.agg [i 0,i 0,i 1]],.tup [d87,T]⟩,
 ⟨[d26,.list [w13,w11,w12],.agg [i 0,i 1,i 2]],.tup [d123,F]⟩,
 ⟨[d26,.list [w13,w11,w12],.agg [i 0,i 2,i 3]],.tup [d123,F]⟩,
 ⟨[d26,.list [w13,w11,w12],.agg [i 1,i 0,i 2]],.tup [d123,F]⟩,
 ⟨[d26,.list [w13,w11,w12],.agg [i 1,i 1,i 3]],.tup [d123,F]⟩,
 ⟨[d26,.list [w13,w11,w12],.agg [i 2,i 0,i 3]],.tup [d123,F]⟩,
 ⟨[d26,.list [w13,w11,w12],.agg [i 2,i 2,i 2]],.tup [d123,F]⟩,
 ⟨[d26,.list [w14,w11,w12],.agg [i 0,i 0,i 1]],.tup [d88,T]⟩,
 ⟨[d26,.list [w14,w11,w12],.agg [i 0,i 1,i 2]],.tup [d123,F]⟩,
 ⟨[d26,.list [w14,w11,w12],.agg [i 0,i 2,i 3]],.tup [d123,F]⟩,
 ⟨[d26,.list [w14,w11,w12],.agg [i 1,i 0,i 2]],.tup [d123,F]⟩,
 ⟨[d26,.list [w14,w11,w12],.agg [i 1,i 1,i 3]],.tup [d123,F]⟩,
 ⟨[d26,.list [w14,w11,w12],.agg [i 2,i 0,i 3]],.tup [d123,F]⟩,
 ⟨[d26,.list [w14,w11,w12],.agg [i 2,i 2,i 2]],.tup [d123,F]⟩,
 ⟨[d26,.list [w15,w11,w12],.agg [i 0,i 1,i 2]],.tup [d123,F]⟩,
 ⟨[d26,.list [w15,w11,w12],.agg [i 0,i 2,i 3]],.tup [d123,F]⟩,
 ⟨[d26,.list [w15,w11,w12],.agg [i 1,i 0,i 2]],.tup [d123,F]⟩,
 ⟨[d26,.list [w15,w11,w12],.agg [i 1,i 1,i 3]],.tup [d123,F]⟩,
 ⟨[d26,.list [w15,w11,w12],.agg [i 2,i 0,i 3]],.tup [d123,F]⟩,
 ⟨[d26,.list [w15,w11,w12],.agg [i 2,i 2,i 2]],.tup [d123,F]⟩,
 ⟨[d26,.list [w16,w11,w12],.agg [i 0,i 0,i 1]],.tup [d90,T]⟩,
 ⟨[d26,.list [w16,w11,w12],.agg [i 0,i 1,i 2]],.tup [d123,F]⟩,
 ⟨[d26,.list [w16,w11,w12],.agg [i 0,i 2,i 3]],.tup [d123,F]⟩,
 ⟨[d26,.list [w16,w11,w12],.agg [i 1,i 0,i 2]],.tup [d123,F]⟩,
 ⟨[d26,.list [w16,w11,w12],.agg [i 1,i 1,i 3]],.tup [d123,F]⟩,
 ⟨[d26,.list [w16,w11,w12],.agg [i 2,i 0,i 3]],.tup [d123,F]⟩,
 ⟨[d26,.list [w16,w11,w12],.agg [i 2,i 2,i 2]],.tup [d123,F]⟩,
 ⟨[d26,.list [w17,w11,w12],.agg [i 0,i 0,i 1]],.tup [d123,F]⟩,
 ⟨[d26,.list [w17,w11,w12],.agg [i 0,i 1,i 2]],.tup [d123,F]⟩,
 ⟨[d26,.list [w17,w11,w12],.agg [i 0,i 2,i 3]],.tup [d123,F]⟩,
 ⟨[d26,.list [w17,w11,w12],.agg [i 1,i 0,i 2]],.tup [d123,F]⟩,
 ⟨[d26,.list [w17,w11,w12],.agg [i 1,i 1,i 3]],.tup [d123,F]⟩,
 ⟨[d26,.list [w17,w11,w12],.agg [i 2,i 0,i 3]],.tup [d123,F]⟩,
 ⟨[d26,.list [w17,w11,w12],.agg [i 2,i 2,i 2]],.tup [d123,F]⟩,
 ⟨[d26,.list [w18,w11,w12],.agg [i 0,i 0,i 1]],.tup [d123,F]⟩,
 ⟨[d26,.list [w18,w11,w12],.agg [i 0,i 1,i 2]],.tup [d123,F]⟩,
 ⟨[d26,.list [w18,w11,w12],.agg [i 0,i 2,i 3]],.tup [d123,F]⟩,
 ⟨[d26,.list [w18,w11,w12],.agg [i 1,i 0,i 2]],.tup [d123,F]⟩,
 ⟨[d26,.list [w18,w11,w12],.agg [i 1,i 1,i 3]],.tup [d123,F]⟩,
 ⟨[d26,.list [w18,w11,w12],.agg [i 2,i 0,i 3]],.tup [d123,F]⟩,
 ⟨[d26,.list [w18,w11,w12],.agg [i 2,i 2,i 2]],.tup [d123,F]⟩,
 ⟨[d26,.list [w10,w19,w11,w12],.agg [i 0,i 0,i 1]],.tup [d92,T]⟩,
 ⟨[d26,.list [w10,w19,w11,w12],.agg [i 0,i 1,i 2]],.tup [d123,F]⟩,
 ⟨[d26,.list [w10,w19,w11,w12],.agg [i 0,i 2,i 3]],.tup [d123,F]⟩,
 ⟨[d26,.list [w10,w19,w11,w12],.agg [i 1,i 0,i 2]],.tup [d123,F]⟩,
 ⟨[d26,.list [w10,w19,w11,w12],.agg [i 1,i 1,i 3]],.tup [d123,F]⟩,
 ⟨[d26,.list [w10,w19,w11,w12],.agg [i 2,i 0,i 3]],.tup [d123,F]⟩,
 ⟨[d26,.list [w10,w19,w11,w12],.agg [i 2,i 2,i 2]],.tup [d123,F]⟩,
 ⟨[d26,.list [w20,w11,w12],.agg [i 0,i 0,i 1]],.tup [d123,F]⟩,
 ⟨[d26,.list [w20,w11,w12],.agg [i 0,i 1,i 2]],.tup [d123,F]⟩,
 ⟨[d26,.list [w20,w11,w12],.agg [i 0,i 2,i 3]],.tup [d123,F]⟩,
 ⟨[d26,.list [w20,w11,w12],.agg [i 1,i 0,i 2]],.tup [d123,F]⟩,
 ⟨[d26,.list [w20,w11,w12],.agg [i 1,i 1,i 3]],.tup [d123,F]⟩,
 ⟨[d26,.list [w20,w11,w12],.agg [i 2,i 0,i 3]],.tup [d123,F]⟩,
 ⟨[d26,.list [w20,w11,w12],.agg [i 2,i 2,i 2]],.tup [d123,F]⟩,
 ⟨[d26,.list [w21,w11,w12],.agg [i 0,i 0,i 1]],.tup [d123,F]⟩,
 ⟨[d26,.list [w21,w11,w12],.agg [i 0,i 1,i 2]],.tup [d123,F]⟩,
 ⟨[d26,.list [w21,w11,w12],.agg [i 0,i 2,i 3]],.tup [d123,F]⟩,
 ⟨[d26,.list [w21,w11,w12],.agg [i 1,i 0,i 2]],.tup [d123,F]⟩,
 ⟨[d26,.list [w21,w11,w12],.agg [i 1,i 1,i 3]],.tup [d123,F]⟩,
 ⟨[d26,.list [w21,w11,w12],.agg [i 2,i 0,i 3]],.tup [d123,F]⟩,
 ⟨[d26,.list [w21,w11,w12],.agg [i 2,i 2,i 2]],.tup [d123,F]⟩,
 ⟨[d26,.list [w10,w22,w12],.agg [i 0,i 1,i 2]],.tup [d123,F]⟩,
 ⟨[d26,.list [w10,w22,w12],.agg [i 0,i 2,i 3]],.tup [d123,F]⟩,
 ⟨[d26,.list [w10,w22,w12],.agg [i 1,i 0,i 2]],.tup [d123,F]⟩,
 ⟨[d26,.list [w10,w22,w12],.agg [i 1,i 1,i 3]],.tup [d123,F]⟩,
 ⟨[d26,.list [w10,w22,w12],.agg [i 1,i 2,i 1]],.tup [d95,T]⟩,
 ⟨[d26,.list [w10,w22,w12],.agg [i 2,i 0,i 3]],.tup [d123,F]⟩,
 ⟨[d26,.list [w10,w22,w12],.agg [i 2,i 2,i 2]],.tup [d123,F]⟩,
 ⟨[d26,.list [w10,w23,w12],.agg [i 0,i 1,i 2]],.tup [d123,F]⟩,
 ⟨[d26,.list [w10,w23,w12],.agg [i 0,i 2,i 3]],.tup [d123,F]⟩,
 ⟨[d26,.list [w10,w23,w12],.agg [i 1,i 0,i 2]],.tup [d123,F]⟩,
 ⟨[d26,.list [w10,w23,w12],.agg [i 1,i 1,i 3]],.tup [d123,F]⟩,
 ⟨[d26,.list [w10,w23,w12],.agg [i 1,i 2,i 1]],.tup [d96,T]⟩,
 ⟨[d26,.list [w10,w23,w12],.agg [i 2,i 0,i 3]],.tup [d123,F]⟩,
 ⟨[d26,.list [w10,w23,w12],.agg [i 2,i 2,i 2]],.tup [d123,F]⟩,
 ⟨[d26,.list [w10,w24,w12],.agg [i 0,i 1,i 2]],.tup [d123,F]⟩,
 ⟨[d26,.list [w10,w24,w12],.agg [i 0,i 2,i 3]],.tup [d123,F]⟩,
 ⟨[d26,.list [w10,w24,w12],.agg [i 1,i 0,i 2]],.tup [d123,F]⟩,
 ⟨[d26,.list [w10,w24,w12],.agg [i 1,i 1,i 3]],.tup [d123,F]⟩,
 ⟨[d26,.list [w10,w24,w12],.agg [i 2,i 0,i 3]],.tup [d123,F]⟩,
 ⟨[d26,.list [w10,w24,w12],.agg [i 2,i 2,i 2]],.tup [d123,F]⟩,
 ⟨[d26,.list [w10,w25,w12],.agg [i 0,i 1,i 2]],.tup [d123,F]⟩,
 ⟨[d26,.list [w10,w25,w12],.agg [i 0,i 2,i 3]],.tup [d123,F]⟩,
 ⟨[d26,.list [w10,w25,w12],.agg [i 1,i 0,i 2]],.tup [d123,F]⟩,
 ⟨[d26,.list [w10,w25,w12],.agg [i 1,i 1,i 3]],.tup [d123,F]⟩,
 ⟨[d26,.list [w10,w25,w12],.agg [i 1,i 2,i 1]],.tup [d98,T]⟩,
 ⟨[d26,.list [w10,w25,w12],.agg [i 2,i 0,i 3]],.tup [d123,F]⟩,
 ⟨[d26,.list [w10,w25,w12],.agg [i 2,i 2,i 2]],.tup [d123,F]⟩,
 ⟨[d26,.list [w10,w26,w12],.agg [i 0,i 0,i 1]],.tup [d50,T]⟩,
 ⟨[d26,.list [w10,w26,w12],.agg [i 0,i 1,i 2]],.tup [d123,F]⟩,
 ⟨[d26,.list [w10,w26,w12],.agg [i 0,i 2,i 3]],.tup [d123,F]⟩,
 ⟨[d26,.list [w10,w26,w12],.agg [i 1,i 0,i 2]],.tup [d123,F]⟩,
 ⟨[d26,.list [w10,w26,w12],.agg [i 1,i 1,i 3]],.tup [d123,F]⟩,
 ⟨[d26,.list [w10,w26,w12],.agg [i 1,i 2,i 1]],.tup [d123,F]⟩,
 ⟨[d26,.list [w10,w26,w12],.agg [i 2,i 0,i 3]],.tup [d123,F]⟩,
 ⟨[d26,.list [w10,w26,w12],.agg [i 2,i 2,i 2]],.tup [d123,F]⟩,
 ⟨[d26,.list [w10,w27,w12],.agg [i 0,i 0,i 1]],.tup [d50,T]⟩,
 ⟨[d26,.list [w10,w27,w12],.agg [i 0,i 1,i 2]],.tup [d123,F]⟩,
 ⟨[d26,.list [w10,w27,w12],.agg [i 0,i 2,i 3]],.tup [d123,F]⟩,
 ⟨[d26,.list [w10,w27,w12],.agg [i 1,i 0,i 2]],.tup [d123,F]⟩,
 ⟨[d26,.list [w10,w27,w12],.agg [i 1,i 1,i 3]],.tup [d123,F]⟩,
 ⟨[d26,.list [w10,w27,w12],.agg [i 1,i 2,i 1]],.tup [d123,F]⟩,
 ⟨[d26,.list [w10,w27,w12],.agg [i 2,i 0,i 3]],.tup [d123,F]⟩,
 ⟨[d26,.list [w10,w27,w12],.agg [i 2,i 2,i 2]],.tup [d123,F]⟩,
 ⟨[d26,.list [w10,w11,w28,w12],.agg [i 0,i 1,i 2]],.tup [d123,F]⟩,
 ⟨[d26,.list [w10,w11,w28,w12],.agg [i 0,i 2,i 3]],.tup [d123,F]⟩,
 ⟨[d26,.list [w10,w11,w28,w12],.agg [i 1,i 0,i 2]],.tup [d123,F]⟩,
 ⟨[d26,.list [w10,w11,w28,w12],.agg [i 1,i 1,i 3]],.tup [d123,F]⟩,
 ⟨[d26,.list [w10,w11,w28,w12],.agg [i 1,i 2,i 1]],.tup [d100,T]⟩,
 ⟨[d26,.list [w10,w11,w28,w12],.agg [i 2,i 0,i 3]],.tup [d123,F]⟩,
 ⟨[d26,.list [w10,w11,w28,w12],.agg [i 2,i 2,i 2]],.tup [d123,F]⟩,
 ⟨[d26,.list [w10,w29,w12],.agg [i 0,i 0,i 1]],.tup [d50,T]⟩,
 ⟨[d26,.list [w10,w29,w12],.agg [i 0,i 1,i 2]],.tup [d123,F]⟩,
 ⟨[d26,.list [w10,w29,w12],.agg [i 0,i 2,i 3]],.tup [d123,F]⟩,
 ⟨[d26,.list [w10,w29,w12],.agg [i 1,i 0,i 2]],.tup [d123,F]⟩,
 ⟨[d26,.list [w10,w29,w12],.agg [i 1,i 1,i 3]],.tup [d123,F]⟩,
 ⟨[d26,.list [w10,w29,w12],.agg [i 1,i 2,i 1]],.tup [d123,F]⟩,
 ⟨[d26,.list [w10,w29,w12],.agg [i 2,i 0,i 3]],.tup [d123,F]⟩,
 ⟨[d26,.list [w10,w29,w12],.agg [i 2,i 2,i 2]],.tup [d123,F]⟩,
 ⟨[d26,.list [w10,w30,w12],.agg [i 0,i 0,i 1]],.tup [d50,T]⟩,
 ⟨[d26,.list [w10,w30,w12],.agg [i 0,i 1,i 2]],.tup [d123,F]⟩,
 ⟨[d26,.list [w10,w30,w12],.agg [i 0,i 2,i 3]],.tup [d123,F]⟩,
 ⟨[d26,.list [w10,w30,w12],.agg [i 1,i 0,i 2]],.tup [d123,F]⟩,
 ⟨[d26,.list [w10,w30,w12],.agg [i 1,i 1,i 3]],.tup [d123,F]⟩,
 ⟨[d26,.list [w10,w30,w12],.agg [i 1,i 2,i 1]],.tup [d123,F]⟩,
 ⟨[d26,.list [w10,w30,w12],.agg [i 2,i 0,i 3]],.tup [d123,F]⟩,
 ⟨[d26,.list [w10,w30,w12],.agg [i 2,i 2,i 2]],.tup [d123,F]⟩,
 ⟨[d26,.list [w10,w11,w31],.agg [i 0,i 1,i 2]],.tup [d123,F]⟩,
 ⟨[d26,.list [w10,w11,w31],.agg [i 0,i 2,i 3]],.tup [d123,F]⟩,
 ⟨[d26,.list [w10,w11,w31],.agg [i 1,i 0,i 2]],.tup [d123,F]⟩,
 ⟨[d26,.list [w10,w11,w31],.agg [i 1,i 1,i 3]],.tup [d123,F]⟩,
 ⟨[d26,.list [w10,w11,w31],.agg [i 2,i 0,i 3]],.tup [d123,F]⟩,
 ⟨[d26,.list [w10,w11,w31],.agg [i 2,i 2,i 2]],.tup [d123,F]⟩,
 ⟨[d26,.list [w10,w11,w32],.agg [i 0,i 1,i 2]],.tup [d123,F]⟩,
 ⟨[d26,.list [w10,w11,w32],.agg [i 0,i 2,i 3]],.tup [d123,F]⟩,
 ⟨[d26,.list [w10,w11,w32],.agg [i 1,i 0,i 2]],.tup [d123,F]⟩,
 ⟨[d26,.list [w10,w11,w32],.agg [i 1,i 1,i 3]],.tup [d123,F]⟩,
 ⟨[d26,.list [w10,w11,w32],.agg [i 2,i 0,i 3]],.tup [d123,F]⟩,
 ⟨[d26,.list [w10,w11,w32],.agg [i 2,i 2,i 2]],.tup [d123,F]⟩,
 ⟨[d26,.list [w10,w11,w33],.agg [i 0,i 1,i 2]],.tup [d123,F]⟩,
 ⟨[d26,.list [w10,w11,w33],.agg [i 0,i 2,i 3]],.tup [d123,F]⟩,
 ⟨[d26,.list [w10,w11,w33],.agg [i 1,i 0,i 2]],.tup [d123,F]⟩,
 ⟨[d26,.list [w10,w11,w33],.agg [i 1,i 1,i 3]],.tup [d123,F]⟩,
 ⟨[d26,.list [w10,w11,w33],.agg [i 2,i 0,i 3]],.tup [d123,F]⟩,
 ⟨[d26,.list [w10,w11,w33],.agg [i 2,i 2,i 2]],.tup [d123,F]⟩,
 ⟨[d26,.list [w10,w11,w34],.agg [i 0,i 1,i 2]],.tup [d123,F]⟩,
 ⟨[d26,.list [w10,w11,w34],.agg [i 0,i 2,i 3]],.tup [d123,F]⟩,
 ⟨[d26,.list [w10,w11,w34],.agg [i 1,i 0,i 2]],.tup [d123,F]⟩,
 ⟨[d26,.list [w10,w11,w34],.agg [i 1,i 1,i 3]],.tup [d123,F]⟩,
 ⟨[d26,.list [w10,w11,w34],.agg [i 2,i 0,i 3]],.tup [d123,F]⟩,
 ⟨[d26,.list [w10,w11,w34],.agg [i 2,i 2,i 2]],.tup [d123,F]⟩,
 ⟨[d26,.list [w10,w11,w35],.agg [i 0,i 0,i 1]],.tup [d50,T]⟩,
 ⟨[d26,.list [w10,w11,w35],.agg [i 0,i 1,i 2]],.tup [d123,F]⟩,
 ⟨[d26,.list [w10,w11,w35],.agg [i 0,i 2,i 3]],.tup [d123,F]⟩,
 ⟨[d26,.list [w10,w11,w35],.agg [i 1,i 0,i 2]],.tup [d123,F]⟩,
 ⟨[d26,.list [w10,w11,w35],.agg [i 1,i 1,i 3]],.tup [d123,F]⟩,
 ⟨[d26,.list [w10,w11,w35],.agg [i 2,i 0,i 3]],.tup [d123,F]⟩,
 ⟨[d26,.list [w10,w11,w35],.agg [i 2,i 1,i 1]],.tup [d123,F]⟩,
 ⟨[d26,.list [w10,w11,w35],.agg [i 2,i 2,i 2]],.tup [d123,F]⟩,
 ⟨[d26,.list [w10,w11,w36],.agg [i 0,i 0,i 1]],.tup [d50,T]⟩,
 ⟨[d26,.list [w10,w11,w36],.agg [i 0,i 1,i 2]],.tup [d123,F]⟩,
 ⟨[d26,.list [w10,w11,w36],.agg [i 0,i 2,i 3]],.tup [d123,F]⟩,
 ⟨[d26,.list [w10,w11,w36],.agg [i 1,i 0,i 2]],.tup [d123,F]⟩,
 ⟨[d26,.list [w10,w11,w36],.agg [i 1,i 1,i 3]],.tup [d123,F]⟩,
 ⟨[d26,.list [w10,w11,w36],.agg [i 2,i 0,i 3]],.tup [d123,F]⟩,
 ⟨[d26,.list [w10,w11,w36],.agg [i 2,i 1,i 1]],.tup [d123,F]⟩,
 ⟨[d26,.list [w10,w11,w36],.agg [i 2,i 2,i 2]],.tup [d123,F]⟩,
 ⟨[d26,.list [w10,w11,w12,w37],.agg [i 0,i 1,i 2]],.tup [d123,F]⟩,
 ⟨[d26,.list [w10,w11,w12,w37],.agg [i 0,i 2,i 3]],.tup [d123,F]⟩,
 ⟨[d26,.list [w10,w11,w12,w37],.agg [i 1,i 0,i 2]],.tup [d123,F]⟩,
 ⟨[d26,.list [w10,w11,w12,w37],.agg [i 1,i 1,i 3]],.tup [d123,F]⟩,
 ⟨[d26,.list [w10,w11,w12,w37],.agg [i 2,i 0,i 3]],.tup [d123,F]⟩,
 ⟨[d26,.list [w10,w11,w12,w37],.agg [i 2,i 2,i 2]],.tup [d123,F]⟩,
 ⟨[d26,.list [w10,w11,w38],.agg [i 0,i 0,i 1]],.tup [d50,T]⟩,
 ⟨[d26,.list [w10,w11,w38],.agg [i 0,i 1,i 2]],.tup [d123,F]⟩,
 ⟨[d26,.list [w10,w11,w38],.agg [i 0,i 2,i 3]],.tup [d123,F]⟩,
 ⟨[d26,.list [w10,w11,w38],.agg [i 1,i 0,i 2]],.tup [d123,F]⟩,
 ⟨[d26,.list [w10,w11,w38],.agg [i 1,i 1,i 3]],.tup [d123,F]⟩,
 ⟨[d26,.list [w10,w11,w38],.agg [i 2,i 0,i 3]],.tup [d123,F]⟩,
 ⟨[d26,.list [w10,w11,w38],.agg [i 2,i 1,i 1]],.tup [d123,F]⟩,
 ⟨[d26,.list [w10,w11,w38],.agg [i 2,i 2,i 2]],.tup [d123,F]⟩,
 ⟨[d26,.list [w10,w11,w39],.agg [i 0,i 0,i 1]],.tup [d50,T]⟩,
 ⟨[d26,.list [w10,w11,w39],.agg [i 0,i 1,i 2]],.tup [d123,F]⟩,
 ⟨[d26,.list [w10,w11,w39],.agg [i 0,i 2,i 3]],.tup [d123,F]⟩,
 ⟨[d26,.list [w10,w11,w39],.agg [i 1,i 0,i 2]],.tup [d123,F]⟩,
 ⟨[d26,.list [w10,w11,w39],.agg [i 1,i 1,i 3]],.tup [d123,F]⟩,
 ⟨[d26,.list [w10,w11,w39],.agg [i 2,i 0,i 3]],.tup [d123,F]⟩,
 ⟨[d26,.list [w10,w11,w39],.agg [i 2,i 1,i 1]],.tup [d123,F]⟩,
 ⟨[d26,.list [w10,w11,w39],.agg [i 2,i 2,i 2]],.tup [d123,F]⟩,
 ⟨[d27,.list [w10,w11,w12],.agg [i 0,i 0,i 1]],.tup [d50,T]⟩,
 ⟨[d27,.list [w10,w11,w12],.agg [i 1,i 2,i 1]],.tup [d49,T]⟩,
 ⟨[d31,.list [w10,w11,w12],.agg [i 1,i 2,i 1]],.tup [d49,T]⟩,
 ⟨[d33,.list [w10,w11,w12],.agg [i 1,i 2,i 1]],.tup [d49,T]⟩]
noncomputable def k111 : L:=[⟨[.list [w10,w11,w12]],T⟩]
noncomputable def k32 : L:=[⟨[d26,.list [w10,w11,w12]],d119⟩,
 ⟨[d26,.list [w13,w11,w12]],d120⟩,
 ⟨[d26,.list [w14,w11,w12]],d119⟩,
 ⟨[d26,.list [w15,w11,w12]],d119⟩,
 ⟨[d26,.list [w16,w11,w12]],d119⟩,
 ⟨[d26,.list [w17,w11,w12]],d120⟩,
 ⟨[d26,.list [w18,w11,w12]],d120⟩,
 ⟨[d26,.list [w10,w19,w11,w12]],d119⟩,
 ⟨[d26,.list [w20,w11,w12]],d120⟩,
 ⟨[d26,.list [w21,w11,w12]],d120⟩,
 ⟨[d26,.list [w10,w22,w12]],d121⟩,
 ⟨[d26,.list [w10,w23,w12]],d119⟩,
 ⟨[d26,.list [w10,w24,w12]],d119⟩,
 ⟨[d26,.list [w10,w25,w12]],d119⟩,
 ⟨[d26,.list [w10,w26,w12]],d121⟩,
 ⟨[d26,.list [w10,w27,w12]],d121⟩,
 ⟨[d26,.list [w10,w11,w28,w12]],d119⟩,
 ⟨[d26,.list [w10,w29,w12]],d121⟩,
 ⟨[d26,.list [w10,w30,w12]],d121⟩,
 ⟨[d26,.list [w10,w11,w31]],d122⟩,
 ⟨[d26,.list [w10,w11,w32]],d119⟩,
 ⟨[d26,.list [w10,w11,w33]],d119⟩,
 ⟨[d26,.list [w10,w11,w34]],d119⟩,
 ⟨[d26,.list [w10,w11,w35]],d122⟩,
 ⟨[d26,.list [w10,w11,w36]],d122⟩,
 ⟨[d26,.list [w10,w11,w12,w37]],d119⟩,
 ⟨[d26,.list [w10,w11,w38]],d122⟩,
 ⟨[d26,.list [w10,w11,w39]],d122⟩]
noncomputable def k116 : L:=[⟨[d50],T⟩,
 ⟨[d49],T⟩,
 ⟨[d51],T⟩]
noncomputable def k266 : L:=[⟨[.agg [u 4,u 3,u 0,u 0]],T⟩]
noncomputable def k208 : L:=[⟨[.agg [u 4,u 3,u 0,u 0],i 10,u 0],.tup [i 420,i 0]⟩,
 ⟨[.agg [u 4,u 3,u 0,u 0],i 11,u 0],.tup [i 450,i 0]⟩,
 ⟨[.agg [u 4,u 3,u 0,u 0],i 8,u 0],.tup [i (-100),i 0]⟩]
noncomputable def k162 : L:=[⟨[d50],T⟩,
 ⟨[d49],T⟩,
 ⟨[d51],T⟩,
 ⟨[d88],T⟩,
 ⟨[d92],T⟩,
 ⟨[d96],T⟩,
 ⟨[d100],T⟩,
 ⟨[d104],T⟩,
 ⟨[d106],T⟩,
 ⟨[d108],T⟩]
noncomputable def k163 : L:=[⟨[d50,u 0],.tup [.undef,d130]⟩,
 ⟨[d49,u 0],.tup [.undef,d131]⟩,
 ⟨[d51,u 0],.tup [.undef,d132]⟩]
noncomputable def k72 : L:=[⟨[.list [w10,w11,w12],u 0],d141⟩,
 ⟨[.list [],u 1],d47⟩,
 ⟨[.list [],u 2],d47⟩,
 ⟨[.list [w11,w12],u 0],d149⟩,
 ⟨[.list [w10,w12],u 0],d149⟩,
 ⟨[.list [w10,w11],u 0],d167⟩,
 ⟨[.list [w10],u 0],d184⟩]
noncomputable def k33 : L:=[⟨[d26,.list [w10,w11,w12],i 1],.tup [.undef,d168]⟩,
 ⟨[d26,.list [w13,w11,w12],i 1],d169⟩,
 ⟨[d26,.list [w14,w11,w12],i 1],.tup [.undef,d170]⟩,
 ⟨[d26,.list [w15,w11,w12],i 1],.tup [.undef,d171]⟩,
 ⟨[d26,.list [w16,w11,w12],i 1],.tup [.undef,d172]⟩,
 ⟨[d26,.list [w10,w19,w11,w12],i 1],.tup [.undef,d173]⟩,
 ⟨[d26,.list [w10,w22,w12],i 1],d174⟩,
 ⟨[d26,.list [w10,w23,w12],i 1],.tup [.undef,d175]⟩,
 ⟨[d26,.list [w10,w24,w12],i 1],.tup [.undef,d176]⟩,
 ⟨[d26,.list [w10,w25,w12],i 1],.tup [.undef,d177]⟩,
 ⟨[d26,.list [w10,w11,w28,w12],i 1],.tup [.undef,d178]⟩,
 ⟨[d26,.list [w10,w11,w31],i 1],d179⟩,
 ⟨[d26,.list [w10,w11,w32],i 1],.tup [.undef,d180]⟩,
 ⟨[d26,.list [w10,w11,w33],i 1],.tup [.undef,d181]⟩,
 ⟨[d26,.list [w10,w11,w34],i 1],.tup [.undef,d182]⟩,
 ⟨[d26,.list [w10,w11,w12,w37],i 1],.tup [.undef,d168]⟩,
 ⟨[d27,.list [w10,w11,w12],i 1],.tup [.undef,d168]⟩,
 ⟨[d33,.list [w10,w11,w12],i 1],.tup [.undef,d168]⟩]
noncomputable def k34 : L:=[⟨[.list [],.list []],T⟩,
 ⟨[.list [w40,w41,w42],.list [w40,w41,w42]],T⟩,
 ⟨[.list [w43,w44],.list [w43,w44]],T⟩,
 ⟨[.list [w45,w44],.list [w45,w44]],T⟩,
 ⟨[.list [w46,w43],.list [w46,w43]],T⟩]
noncomputable def k71 : L:=[⟨[i 3],.tup [u 2,i 0]⟩]
noncomputable def k73 : L:=[⟨[.list []],d125⟩]
noncomputable def k35 : L:=[⟨[d26,.list [w10,w11,w12]],.tup [.undef,d168]⟩,
 ⟨[d26,.list [w13,w11,w12]],d169⟩,
 ⟨[d26,.list [w14,w11,w12]],.tup [.undef,d170]⟩,
 ⟨[d26,.list [w15,w11,w12]],.tup [.undef,d171]⟩,
 ⟨[d26,.list [w16,w11,w12]],.tup [.undef,d172]⟩,
 ⟨[d26,.list [w17,w11,w12]],d169⟩,
 ⟨[d26,.list [w18,w11,w12]],d169⟩,
 ⟨[d26,.list [w10,w19,w11,w12]],.tup [.undef,d173]⟩,
 ⟨[d26,.list [w20,w11,w12]],d169⟩,
 ⟨[d26,.list [w21,w11,w12]],d169⟩,
 ⟨[d26,.list [w10,w22,w12]],d174⟩,
 ⟨[d26,.list [w10,w23,w12]],.tup [.undef,d175]⟩,
 ⟨[d26,.list [w10,w24,w12]],.tup [.undef,d176]⟩,
 ⟨[d26,.list [w10,w25,w12]],.tup [.undef,d177]⟩,
 ⟨[d26,.list [w10,w26,w12]],d174⟩,
 ⟨[d26,.list [w10,w27,w12]],d174⟩,
 ⟨[d26,.list [w10,w11,w28,w12]],.tup [.undef,d178]⟩,
 ⟨[d26,.list [w10,w29,w12]],d174⟩,
 ⟨[d26,.list [w10,w30,w12]],d174⟩,
 ⟨[d26,.list [w10,w11,w31]],d179⟩,
 ⟨[d26,.list [w10,w11,w32]],.tup [.undef,d180]⟩,
 ⟨[d26,.list [w10,w11,w33]],.tup [.undef,d181]⟩,
 ⟨[d26,.list [w10,w11,w34]],.tup [.undef,d182]⟩,
 ⟨[d26,.list [w10,w11,w35]],d179⟩,
 ⟨[d26,.list [w10,w11,w36]],d179⟩,
 ⟨[d26,.list [w10,w11,w12,w37]],.tup [.undef,d168]⟩,
 ⟨[d26,.list [w10,w11,w38]],d179⟩,
 ⟨[d26,.list [w10,w11,w39]],d179⟩]
noncomputable def k61 : L:=[⟨[.list []],d198⟩]
noncomputable def k65 : L:=[⟨[i 1,i 0],d12⟩,
 ⟨[i 1,i 1],d13⟩,
 ⟨[i 1,i 2],d14⟩,
 ⟨[i 1,i 3],d15⟩,
 ⟨[i 1,i 4],d16⟩,
 ⟨[i 1,i 5],d17⟩,
 ⟨[i 1,i 6],d18⟩,
 ⟨[i 1,i 7],d19⟩,
 ⟨[i 1,i 8],d20⟩,
 ⟨[i 1,i 9],d21⟩,
 ⟨[i 1,i 10],d22⟩,
 ⟨[i 1,i 11],d23⟩]
noncomputable def k75 : L:=[⟨[.list []],d198⟩]
noncomputable def k119 : L:=[⟨[d25,d25],T⟩,
 ⟨[d185,d185],T⟩,
 ⟨[d186,d186],T⟩,
 ⟨[d187,d187],T⟩,
 ⟨[d188,d188],T⟩]
noncomputable def k76 : L:=[⟨[d26,d26],T⟩]
noncomputable def k97 : L:=[⟨[d26,i 1],.tup [i 0,i 0]⟩,
 ⟨[d26,i 2],.tup [i 1,i 0]⟩,
 ⟨[d26,i 3],.tup [i 2,i 0]⟩]
noncomputable def k99 : L:=[⟨[d191],d192⟩,
 ⟨[d193],d194⟩,
 ⟨[d195],d196⟩,
 ⟨[d197],d192⟩]
noncomputable def k155 : L:=[⟨[i 1,i 0],d0⟩,
 ⟨[i 1,i 1],d1⟩,
 ⟨[i 1,i 2],d2⟩,
 ⟨[i 1,i 3],d3⟩,
 ⟨[i 1,i 4],d4⟩,
 ⟨[i 1,i 5],d5⟩,
 ⟨[i 1,i 6],d6⟩,
 ⟨[i 1,i 7],d7⟩,
 ⟨[i 1,i 8],d8⟩,
 ⟨[i 1,i 9],d9⟩,
 ⟨[i 1,i 10],d10⟩,
 ⟨[i 1,i 11],d11⟩]
noncomputable def k10 : L:=[⟨[d26,.list [w10,w11,w12],i (-1)],T⟩,
 ⟨[d26,.list [w10,w11,w12],i 0],T⟩,
 ⟨[d26,.list [w10,w11,w12],i 1],T⟩,
 ⟨[d26,.list [w10,w11,w12],i 2],T⟩,
 ⟨[d26,.list [w10,w11,w12],i 3],T⟩,
 ⟨[d26,.list [w10,w11,w12],i 4],T⟩,
 ⟨[d26,.list [w10,w11,w12],i 5],T⟩,
 ⟨[d26,.list [w13,w11,w12],i (-1)],T⟩,
 ⟨[d26,.list [w13,w11,w12],i 0],T⟩,
 ⟨[d26,.list [w13,w11,w12],i 1],T⟩,
 ⟨[d26,.list [w13,w11,w12],i 2],T⟩,
 ⟨[d26,.list [w13,w11,w12],i 3],T⟩,
 ⟨[d26,.list [w13,w11,w12],i 4],T⟩,
 ⟨[d26,.list [w13,w11,w12],i 5],T⟩,
 ⟨[d26,.list [w14,w11,w12],i (-1)],T⟩,
 ⟨[d26,.list [w14,w11,w12],i 0],T⟩,
 ⟨[d26,.list [w14,w11,w12],i 1],T⟩,
 ⟨[d26,.list [w14,w11,w12],i 2],T⟩,
 ⟨[d26,.list [w14,w11,w12],i 3],T⟩,
 ⟨[d26,.list [w14,w11,w12],i 4],T⟩,
 ⟨[d26,.list [w14,w11,w12],i 5],T⟩,
 ⟨[d26,.list [w15,w11,w12],i (-1)],T⟩,
 ⟨[d26,.list [w15,w11,w12],i 0],T⟩,
 ⟨[d26,.list [w15,w11,w12],i 1],T⟩,
 ⟨[d26,.list [w15,w11,w12],i 2],T⟩,
 ⟨[d26,.list [w15,w11,w12],i 3],T⟩,
 ⟨[d26,.list [w15,w11,w12],i 4],T⟩,
 ⟨[d26,.list [w15,w11,w12],i 5],T⟩,
 ⟨[d26,.list [w16,w11,w12],i (-1)],T⟩,
 ⟨[d26,.list [w16,w11,w12],i 0],T⟩,
 ⟨[d26,.list [w16,w11,w12],i 1],T⟩,
 ⟨[d26,.list [w16,w11,w12],i 2],T⟩,
 ⟨[d26,.list [w16,w11,w12],i 3],T⟩,
 ⟨[d26,.list [w16,w11,w12],i 4],T⟩,
 ⟨[d26,.list [w16,w11,w12],i 5],T⟩,
 ⟨[d26,.list [w17,w11,w12],i (-1)],T⟩,
 ⟨[d26,.list [w17,w11,w12],i 0],T⟩,
 ⟨[d26,.list [w17,w11,w12],i 1],T⟩,
 ⟨[d26,.list [w17,w11,w12],i 2],T⟩,
 ⟨[d26,.list [w17,w11,w12],i 3],T⟩,
 ⟨[d26,.list [w17,w11,w12],i 4],T⟩,
 ⟨[d26,.list [w17,w11,w12],i 5],T⟩,
 ⟨[d26,.list [w18,w11,w12],i (-1)],T⟩,
 ⟨[d26,.list [w18,w11,w12],i 0],T⟩,
 ⟨[d26,.list [w18,w11,w12],i 1],T⟩,
 ⟨[d26,.list [w18,w11,w12],i 2],T⟩,
 ⟨[d26,.list [w18,w11,w12],i 3],T⟩,
 ⟨[d26,.list [w18,w11,w12],i 4],T⟩,
 ⟨[d26,.list [w18,w11,w12],i 5],T⟩,
 ⟨[d26,.list [w10,w19,w11,w12],i (-1)],T⟩,
 ⟨[d26,.list [w10,w19,w11,w12],i 0],T⟩,
 ⟨[d26,.list [w10,w19,w11,w12],i 1],T⟩,
 ⟨[d26,.list [w10,w19,w11,w12],i 2],T⟩,
 ⟨[d26,.list [w10,w19,w11,w12],i 3],T⟩,
 ⟨[d26,.list [w10,w19,w11,w12],i 4],T⟩,
 ⟨[d26,.list [w10,w19,w11,w12],i 5],T⟩,
 ⟨[d26,.list [w20,w11,w12],i (-1)],T⟩,
 ⟨[d26,.list [w20,w11,w12],i 0],T⟩,
 ⟨[d26,.list [w20,w11,w12],i 1],T⟩,
 ⟨[d26,.list [w20,w11,w12],i 2],T⟩,
 ⟨[d26,.list [w20,w11,w12],i 3],T⟩,
 ⟨[d26,.list [w20,w11,w12],i 4],T⟩,
 ⟨[d26,.list [w20,w11,w12],i 5],T⟩,
 ⟨[d26,.list [w21,w11,w12],i (-1)],T⟩,
 ⟨[d26,.list [w21,w11,w12],i 0],T⟩,
 ⟨[d26,.list [w21,w11,w12],i 1],T⟩,
 ⟨[d26,.list [w21,w11,w12],i 2],T⟩,
 ⟨[d26,.list [w21,w11,w12],i 3],T⟩,
 ⟨[d26,.list [w21,w11,w12],i 4],T⟩,
 ⟨[d26,.list [w21,w11,w12],i 5],T⟩,
 ⟨[d26,.list [w10,w22,w12],i (-1)],T⟩,
 ⟨[d26,.list [w10,w22,w12],i 0],T⟩,
 ⟨[d26,.list [w10,w22,w12],i 1],T⟩,
 ⟨[d26,.list [w10,w22,w12],i 2],T⟩,
 ⟨[d26,.list [w10,w22,w12],i 3],T⟩,
 ⟨[d26,.list [w10,w22,w12],i 4],T⟩,
 ⟨[d26,.list [w10,w22,w12],i 5],T⟩,
 ⟨[d26,.list [w10,w23,w12],i (-1)],T⟩,
 ⟨[d26,.list [w10,w23,w12],i 0],T⟩,
 ⟨[d26,.list [w10,w23,w12],i 1],T⟩,
 ⟨[d26,.list [w10,w23,w12],i 2],T⟩,
 ⟨[d26,.list [w10,w23,w12],i 3],T⟩,
 ⟨[d26,.list [w10,w23,w12],i 4],T⟩,
 ⟨[d26,.list [w10,w23,w12],i 5],T⟩,
 ⟨[d26,.list [w10,w24,w12],i (-1)],T⟩,
 ⟨[d26,.list [w10,w24,w12],i 0],T⟩,
 ⟨[d26,.list [w10,w24,w12],i 1],T⟩,
 ⟨[d26,.list [w10,w24,w12],i 2],T⟩,
 ⟨[d26,.list [w10,w24,w12],i 3],T⟩,
 ⟨[d26,.list [w10,w24,w12],i 4],T⟩,
 ⟨[d26,.list [w10,w24,w12],i 5],T⟩,
 ⟨[d26,.list [w10,w25,w12],i (-1)],T⟩,
 ⟨[d26,.list [w10,w25,w12],i 0],T⟩,
 ⟨[d26,.list [w10,w25,w12],i 1],T⟩,
 ⟨[d26,.list [w10,w25,w12],i 2],T⟩,
 ⟨[d26,.list [w10,w25,w12],i 3],T⟩,
 ⟨[d26,.list [w10,w25,w12],i 4],T⟩,
 ⟨[d26,.list [w10,w25,w12],i 5],T⟩,
 ⟨[d26,.list [w10,w26,w12],i (-1)],T⟩,
 ⟨[d26,.list [w10,w26,w12],i 0],T⟩,
 ⟨[d26,.list [w10,w26,w12],i 1],T⟩,
 ⟨[d26,.list [w10,w26,w12],i 2],T⟩,
 ⟨[d26,.list [w10,w26,w12],i 3],T⟩,
 ⟨[d26,.list [w10,w26,w12],i 4],T⟩,
 ⟨[d26,.list [w10,w26,w12],i 5],T⟩,
 ⟨[d26,.list [w10,w27,w12],i (-1)],T⟩,
 ⟨[d26,.list [w10,w27,w12],i 0],T⟩,
 ⟨[d26,.list [w10,w27,w12],i 1],T⟩,
 ⟨[d26,.list [w10,w27,w12],i 2],T⟩,
 ⟨[d26,.list [w10,w27,w12],i 3],T⟩,
 ⟨[d26,.list [w10,w27,w12],i 4],T⟩,
 ⟨[d26,.list [w10,w27,w12],i 5],T⟩,
 ⟨[d26,.list [w10,w11,w28,w12],i (-1)],T⟩,
 ⟨[d26,.list [w10,w11,w28,w12],i 0],T⟩,
 ⟨[d26,.list [w10,w11,w28,w12],i 1],T⟩,
 ⟨[d26,.list [w10,w11,w28,w12],i 2],T⟩,
 ⟨[d26,.list [w10,w11,w28,w12],i 3],T⟩,
 ⟨[d26,.list [w10,w11,w28,w12],i 4],T⟩,
 ⟨[d26,.list [w10,w11,w28,w12],i 5],T⟩,
 ⟨[d26,.list [w10,w29,w12],i (-1)],T⟩,
 ⟨[d26,.list [w10,w29,w12],i 0],T⟩,
 ⟨[d26,.list [w10,w29,w12],i 1],T⟩,
 ⟨[d26,.list [w10,w29,w12],i 2],T⟩,
 ⟨[d26,.list [w10,w29,w12],i 3],T⟩,
 ⟨[d26,.list [w10,w29,w12],i 4],T⟩,
 ⟨[d26,.list [w10,w29,w12],i 5],T⟩,
 ⟨[d26,.list [w10,w30,w12],i (-1)],T⟩,
 ⟨[d26,.list [w10,w30,w12],i 0],T⟩,
 ⟨[d26,.list [w10,w30,w12],i 1],T⟩,
 ⟨[d26,.list [w10,w30,w12],i 2],T⟩,
 ⟨[d26,.list [w10,w30,w12],i 3],T⟩,
 ⟨[d26,.list [w10,w30,w12],i 4],T⟩,
 ⟨[d26,.list [w10,w30,w12],i 5],T⟩,
 ⟨[d26,.list [w10,w11,w31],i (-1)],T⟩,
 ⟨[d26,.list [w10,w11,w31],i 0],T⟩,
 ⟨[d26,.list [w10,w11,w31],i 1],T⟩,
 ⟨[d26,.list [w10,w11,w31],i 2],T⟩,
 ⟨[d26,.list [w10,w11,w31],i 3],T⟩,
 ⟨[d26,.list [w10,w11,w31],i 4],T⟩,
 ⟨[d26,.list [w10,w11,w31],i 5],T⟩,
 ⟨[d26,.list [w10,w11,w32],i (-1)],T⟩,
 ⟨[d26,.list [w10,w11,w32],i 0],T⟩,
 ⟨[d26,.list [w10,w11,w32],i 1],T⟩,
 ⟨[d26,.list [w10,w11,w32],i 2],T⟩,
 ⟨[d26,.list [w10,w11,w32],i 3],T⟩,
 ⟨[d26,.list [w10,w11,w32],i 4],T⟩,
 ⟨[d26,.list [w10,w11,w32],i 5],T⟩,
 ⟨[d26,.list [w10,w11,w33],i (-1)],T⟩,
 ⟨[d26,.list [w10,w11,w33],i 0],T⟩,
 ⟨[d26,.list [w10,w11,w33],i 1],T⟩,
 ⟨[d26,.list [w10,w11,w33],i 2],T⟩,
 ⟨[d26,.list [w10,w11,w33],i 3],T⟩,
 ⟨[d26,.list [w10,w11,w33],i 4],T⟩,
 ⟨[d26,.list [w10,w11,w33],i 5],T⟩,
 ⟨[d26,.list [w10,w11,w34],i (-1)],T⟩,
 ⟨[d26,.list [w10,w11,w34],i 0],T⟩,
 ⟨[d26,.list [w10,w11,w34],i 1],T⟩,
 ⟨[d26,.list [w10,w11,w34],i 2],T⟩,
 ⟨[d26,.list [w10,w11,w34],i 3],T⟩,
 ⟨[d26,.list [w10,w11,w34],i 4],T⟩,
 ⟨[d26,.list [w10,w11,w34],i 5],T⟩,
 ⟨[d26,.list [w10,w11,w35],i (-1)],T⟩,
 ⟨[d26,.list [w10,w11,w35],i 0],T⟩,
 ⟨[d26,.list [w10,w11,w35],i 1],T⟩,
 ⟨[d26,.list [w10,w11,w35],i 2],T⟩,
 ⟨[d26,.list [w10,w11,w35],i 3],T⟩,
 ⟨[d26,.list [w10,w11,w35],i 4],T⟩,
 ⟨[d26,.list [w10,w11,w35],i 5],T⟩,
 ⟨[d26,.list [w10,w11,w36],i (-1)],T⟩,
 ⟨[d26,.list [w10,w11,w36],i 0],T⟩,
 ⟨[d26,.list [w10,w11,w36],i 1],T⟩,
 ⟨[d26,.list [w10,w11,w36],i 2],T⟩,
 ⟨[d26,.list [w10,w11,w36],i 3],T⟩,
 ⟨[d26,.list [w10,w11,w36],i 4],T⟩,
 ⟨[d26,.list [w10,w11,w36],i 5],T⟩,
 ⟨[d26,.list [w10,w11,w12,w37],i (-1)],T⟩,
 ⟨[d26,.list [w10,w11,w12,w37],i 0],T⟩,
 ⟨[d26,.list [w10,w11,w12,w37],i 1],T⟩,
 ⟨[d26,.list [w10,w11,w12,w37],i 2],T⟩,
 ⟨[d26,.list [w10,w11,w12,w37],i 3],T⟩,
 ⟨[d26,.list [w10,w11,w12,w37],i 4],T⟩,
 ⟨[d26,.list [w10,w11,w12,w37],i 5],T⟩,
 ⟨[d26,.list [w10,w11,w38],i (-1)],T⟩,
 ⟨[d26,.list [w10,w11,w38],i 0],T⟩,
 ⟨[d26,.list [w10,w11,w38],i 1],T⟩,
 ⟨[d26,.list [w10,w11,w38],i 2],T⟩,
 ⟨[d26,.list [w10,w11,w38],i 3],T⟩,
 ⟨[d26,.list [w10,w11,w38],i 4],T⟩,
 ⟨[d26,.list [w10,w11,w38],i 5],T⟩,
 ⟨[d26,.list [w10,w11,w39],i (-1)],T⟩,
 ⟨[d26,.list [w10,w11,w39],i 0],T⟩,
 ⟨[d26,.list [w10,w11,w39],i 1],T⟩,
 ⟨[d26,.list [w10,w11,w39],i 2],T⟩,
 ⟨[d26,.list [w10,w11,w39],i 3],T⟩,
 ⟨[d26,.list [w10,w11,w39],i 4],T⟩,
 ⟨[d26,.list [w10,w11,w39],i 5],T⟩,
 ⟨[d26,.list [w11,w10],i 1],T⟩,
 ⟨[d26,.list [],i 2],T⟩,
 ⟨[d26,.list [w10],i 1],T⟩,
 ⟨[d27,.list [w10,w11,w12],i 1],T⟩,
 ⟨[d27,.list [w11,w10],i 1],T⟩,
 ⟨[d27,.list [],i 2],T⟩,
 ⟨[d27,.list [w10],i 1],T⟩,
 ⟨[d189,.list [w10,w11,w12],i 1],T⟩,
 ⟨[d189,.list [w11,w10],i 1],T⟩,
 ⟨[d189,.list [],i 2],T⟩,
 ⟨[d189,.list [w10],i 1],T⟩,
 ⟨[d29,.list [w10,w11,w12],i 1],T⟩,
 ⟨[d29,.list [w11,w10],i 1],T⟩,
 ⟨[d29,.list [],i 2],T⟩,
 ⟨[d29,.list [w10],i 1],T⟩,
 ⟨[d31,.list [w10,w11,w12],i 1],T⟩,
 ⟨[d31,.list [w11,w10],i 1],T⟩,
 ⟨[d31,.list [],i 2],T⟩,
 ⟨[d31,.list [w10],i 1],T⟩,
 ⟨[d33,.list [w10,w11,w12],i 1],T⟩,
 ⟨[d33,.list [w11,w10],i 1],T⟩,
 ⟨[d33,.list [],i 2],T⟩,
 ⟨[d33,.list [w10],i 1],T⟩,
 ⟨[d34,.list [w10,w11,w12],i 1],T⟩,
 ⟨[d34,.list [w11,w10],i 1],T⟩,
 ⟨[d34,.list [],i 2],T⟩,
 ⟨[d34,.list [w10],i 1],T⟩,
 ⟨[d190,.list [w10,w11,w12],i 1],T⟩,
 ⟨[d190,.list [w11,w10],i 1],T⟩,
 ⟨[d190,.list [],i 2],T⟩,
 ⟨[d190,.list [w10],i 1],T⟩]
noncomputable def k4 : L:=[⟨[],T⟩]
end Memo
end Go.Proofs.YtkcfpgaepmllhaaGreatDoor
