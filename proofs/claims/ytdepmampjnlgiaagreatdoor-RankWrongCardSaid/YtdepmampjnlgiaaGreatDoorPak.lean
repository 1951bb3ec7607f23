/- Calls and what they give, as data. No condition. -/
import Derived.Test.YtdepmampjnlgiaaGreatDoorEag
namespace Go.Proofs.YtdepmampjnlgiaaGreatDoor
namespace ak
set_option maxRecDepth 100000
abbrev i (z : Int) : D:=iv z
abbrev u (z : Int) : D:=.v (.int .u8 z)
abbrev T : D:=bv true
abbrev F : D:=bv false
abbrev L:=List cV
abbrev r (a b c d e : Int) : List D:=[i a,i b,i c,i d,i e]
def se (m : D) (z : Int) : D:=match m with
  | .agg c=>.agg (c ++ [i z])
  | m=>m
def q (m : D) (z : Int) : cV:=⟨[se m z],i 0⟩
def t (m : D) : cV:=⟨[m,i 9223372036854775807],.tup [T,i 0]⟩
def v (w : List D) : cV:=⟨[.agg w],T⟩
noncomputable section
def d0 : D:=.lptr [F,i 0,i 1,.clo 330 [],.clo 331 []]
def d1 : D:=.clo 309 [.lptr [i 1],.lptr [i 3],d0]
def w0 : List D:=r 0 0 1 4 0
def w1 : List D:=r 0 1 2 5 1
def w2 : List D:=r 0 2 3 6 2
def d2 : D:=.clo 309 [.lptr [i 2],.lptr [i 3],d0]
def w3 : List D:=r 1 0 1 6 1
def w4 : List D:=r 1 1 2 4 2
def w5 : List D:=r 1 2 3 5 0
def d3 : D:=.list [w0,w1,w2,w3,w4,w5]
def d4 : D:=.clo 309 [.lptr [i 3],.lptr [i 3],d0]
def w6 : List D:=r 2 0 1 5 2
def w7 : List D:=r 2 1 2 6 0
def w8 : List D:=r 2 2 3 4 1
def d5 : D:=.list [w0,w1,w2,w3,w4,w5,w6,w7,w8]
def d6 : D:=.clo 309 [.lptr [i 1],.lptr [i 5],d0]
def w9 : List D:=r 0 0 1 6 0
def I0 : List D:=r 0 1 2 7 1
def I1 : List D:=r 0 2 3 8 2
def I3 : List D:=r 0 3 4 9 3
def I4 : List D:=r 0 4 5 10 4
def d7 : D:=.list [w9,I0,I1,I3,I4]
def d8 : D:=.clo 309 [.lptr [i 2],.lptr [i 5],d0]
def Lr : List D:=r 1 0 1 10 1
def Lu : List D:=r 1 1 2 6 2
def Zv : List D:=r 1 2 3 7 3
def Lv : List D:=r 1 3 4 8 4
def Lw : List D:=r 1 4 5 9 0
def d9 : D:=.list [w9,I0,I1,I3,I4,Lr,Lu,Zv,Lv,Lw]
def d10 : D:=.clo 309 [.lptr [i 3],.lptr [i 5],d0]
def Sl : List D:=r 2 0 1 9 2
def Sm : List D:=r 2 1 2 10 3
def Sn : List D:=r 2 2 3 6 4
def Sp : List D:=r 2 3 4 7 0
def w23 : List D:=r 2 4 5 8 1
def d11 : D:=.list [w9,I0,I1,I3,I4,Lr,Lu,Zv,Lv,Lw,Sl,Sm,Sn,Sp,w23]
def d12 : D:=.clo 309 [.lptr [i 4],.lptr [i 5],d0]
def Zw : List D:=r 3 0 1 8 3
def w25 : List D:=r 3 1 2 9 4
def Zx : List D:=r 3 2 3 10 0
def Zy : List D:=r 3 3 4 6 1
def Zz : List D:=r 3 4 5 7 2
def d13 : D:=.list [w9,I0,I1,I3,I4,Lr,Lu,Zv,Lv,Lw,Sl,Sm,Sn,Sp,w23,Zw,w25,Zx,Zy,Zz]
def d14 : D:=.clo 309 [.lptr [i 5],.lptr [i 5],d0]
def w29 : List D:=r 4 0 1 7 4
def w30 : List D:=r 4 1 2 8 0
def w31 : List D:=r 4 2 3 9 1
def w32 : List D:=r 4 3 4 10 2
def w33 : List D:=r 4 4 5 6 3
def d15 : D:=.list [w9,I0,I1,I3,I4,Lr,Lu,Zv,Lv,Lw,Sl,Sm,Sn,Sp,w23,Zw,w25,Zx,Zy,Zz,w29,w30,w31,w32,w33]
def d16 : D:=.lptr [T,i 1,i 1,.clo 332 [],.clo 331 []]
def d17 : D:=.clo 309 [.lptr [i 1],.lptr [i 2],d16]
def S0 : List D:=r 0 0 1 3 0
def w35 : List D:=r 0 1 2 4 1
def d18 : D:=.clo 309 [.lptr [i 1],.lptr [i 4],d16]
def Jc : List D:=r 0 0 1 5 0
def Jd : List D:=r 0 1 2 6 1
def ZA : List D:=r 0 2 3 7 2
def ZB : List D:=r 0 3 4 8 3
def d19 : D:=.clo 309 [.lptr [i 2],.lptr [i 4],d16]
def S4 : List D:=r 1 0 1 8 1
def S5 : List D:=r 1 1 2 5 2
def w42 : List D:=r 1 2 3 6 3
def w43 : List D:=r 1 3 4 7 0
def d20 : D:=.list [Jc,Jd,ZA,ZB,S4,S5,w42,w43]
def d21 : D:=.clo 309 [.lptr [i 3],.lptr [i 4],d16]
def w44 : List D:=r 2 0 1 6 2
def w45 : List D:=r 2 1 2 7 3
def w46 : List D:=r 2 2 3 8 0
def w47 : List D:=r 2 3 4 5 1
def d22 : D:=.list [Jc,Jd,ZA,ZB,S4,S5,w42,w43,w44,w45,w46,w47]
def d23 : D:=.lptr [T,i 0,i 2,.clo 330 [],.clo 333 []]
def d24 : D:=.clo 309 [.lptr [i 1],.lptr [i 2],d23]
def ZC : List D:=r 0 1 2 4 0
def d25 : D:=.clo 309 [.lptr [i 2],.lptr [i 2],d23]
def w49 : List D:=r 1 0 1 4 1
def w50 : List D:=r 1 1 2 3 1
def d26 : D:=.clo 309 [.lptr [i 1],.lptr [i 4],d23]
def YE : List D:=r 0 2 3 7 3
def YF : List D:=r 0 3 4 8 0
def d27 : D:=.clo 309 [.lptr [i 2],.lptr [i 4],d23]
def w53 : List D:=r 1 2 3 6 0
def w54 : List D:=r 1 3 4 7 1
def d28 : D:=.list [Jc,Jd,YE,YF,S4,S5,w53,w54]
def d29 : D:=.clo 309 [.lptr [i 3],.lptr [i 4],d23]
def w55 : List D:=r 2 0 1 7 2
def w56 : List D:=r 2 1 2 8 3
def w57 : List D:=r 2 2 3 5 1
def w58 : List D:=r 2 3 4 6 2
def d30 : D:=.list [Jc,Jd,YE,YF,S4,S5,w53,w54,w55,w56,w57,w58]
def d31 : D:=.clo 309 [.lptr [i 4],.lptr [i 4],d23]
def w59 : List D:=r 3 0 1 6 3
def w60 : List D:=r 3 1 2 7 0
def w61 : List D:=r 3 2 3 8 2
def w62 : List D:=r 3 3 4 5 3
def d32 : D:=.list [Jc,Jd,YE,YF,S4,S5,w53,w54,w55,w56,w57,w58,w59,w60,w61,w62]
def d33 : D:=.agg [i 3,i 1,i 3,i 1,i 2,.list [w0,w1,w2]]
def d34 : D:=.agg [i 3,i 2,i 3,i 1,i 2,d3]
def d35 : D:=.agg [i 3,i 3,i 3,i 1,i 2,d5]
def d36 : D:=.agg [i 5,i 1,i 5,i 1,i 2,d7]
def d37 : D:=.agg [i 5,i 2,i 5,i 1,i 2,d9]
def d38 : D:=.agg [i 5,i 3,i 5,i 1,i 2,d11]
def d39 : D:=.agg [i 5,i 4,i 5,i 1,i 2,d13]
def d40 : D:=.agg [i 5,i 5,i 5,i 1,i 2,d15]
def d41 : D:=.agg [i 2,i 1,i 2,i 1,i 2,.list [S0,w35]]
def d42 : D:=.agg [i 4,i 1,i 4,i 1,i 2,.list [Jc,Jd,ZA,ZB]]
def d43 : D:=.agg [i 4,i 2,i 4,i 1,i 2,d20]
def d44 : D:=.agg [i 4,i 3,i 4,i 1,i 2,d22]
def d45 : D:=.agg [i 2,i 1,i 2,i 2,i 2,.list [S0,ZC]]
def d46 : D:=.agg [i 2,i 2,i 2,i 2,i 2,.list [S0,ZC,w49,w50]]
def d47 : D:=.agg [i 4,i 1,i 4,i 2,i 2,.list [Jc,Jd,YE,YF]]
def d48 : D:=.agg [i 4,i 2,i 4,i 2,i 2,d28]
def d49 : D:=.agg [i 4,i 3,i 4,i 2,i 2,d30]
def d50 : D:=.agg [i 4,i 4,i 4,i 2,i 2,d32]
def S6 : List D:=r 0 0 11 6 0
def d51 : D:=.list [S6,I0,I1,I3,I4]
def d52 : D:=.agg [i 5,i 1,i 5,i 1,i 2,d51]
def ZD : List D:=r 1 2 11 7 3
def d53 : D:=.list [S6,I0,I1,I3,I4,Lr,Lu,ZD,Lv,Lw]
def d54 : D:=.agg [i 5,i 2,i 5,i 1,i 2,d53]
def w65 : List D:=r 2 4 11 8 1
def d55 : D:=.list [S6,I0,I1,I3,I4,Lr,Lu,ZD,Lv,Lw,Sl,Sm,Sn,Sp,w65]
def d56 : D:=.agg [i 5,i 3,i 5,i 1,i 2,d55]
def w66 : List D:=r 3 1 11 9 4
def d57 : D:=.list [S6,I0,I1,I3,I4,Lr,Lu,ZD,Lv,Lw,Sl,Sm,Sn,Sp,w65,Zw,w66,Zx,Zy,Zz]
def d58 : D:=.agg [i 5,i 4,i 5,i 1,i 2,d57]
def w67 : List D:=r 4 3 11 10 2
def d59 : D:=.list [S6,I0,I1,I3,I4,Lr,Lu,ZD,Lv,Lw,Sl,Sm,Sn,Sp,w65,Zw,w66,Zx,Zy,Zz,w29,w30,w31,w67,w33]
def d60 : D:=.agg [i 5,i 5,i 5,i 1,i 2,d59]
def w68 : List D:=r 0 0 4 1 0
def w69 : List D:=r 0 1 2 3 0
def d61 : D:=.agg [i 2,i 1,i 3,i 2,i 1,.list [w68,w69]]
def w70 : List D:=r 1 0 4 2 1
def Cw : List D:=r 1 1 3 1 1
def d62 : D:=.agg [i 2,i 2,i 3,i 2,i 1,.list [w68,w69,w70,Cw]]
def w72 : List D:=r 2 0 4 3 2
def w73 : List D:=r 2 1 1 2 2
def d63 : D:=.list [w68,w69,w70,Cw,w72,w73]
def d64 : D:=.agg [i 2,i 3,i 3,i 2,i 1,d63]
def S7 : List D:=r 0 0 6 1 0
def S8 : List D:=r 0 1 2 5 0
def S9 : List D:=r 0 2 3 4 0
def d65 : D:=.agg [i 3,i 1,i 5,i 3,i 1,.list [S7,S8,S9]]
def ZE : List D:=r 1 0 6 2 1
def ZF : List D:=r 1 2 4 5 1
def d66 : D:=.list [S7,S8,S9,ZE,Cw,ZF]
def d67 : D:=.agg [i 3,i 2,i 5,i 3,i 1,d66]
def w79 : List D:=r 2 0 6 3 2
def I5 : List D:=r 2 1 4 2 2
def I6 : List D:=r 2 2 5 1 2
def d68 : D:=.list [S7,S8,S9,ZE,Cw,ZF,w79,I5,I6]
def d69 : D:=.agg [i 3,i 3,i 5,i 3,i 1,d68]
def w82 : List D:=r 3 0 6 4 3
def Lx : List D:=r 3 1 5 3 3
def w84 : List D:=r 3 2 1 2 3
def d70 : D:=.list [S7,S8,S9,ZE,Cw,ZF,w79,I5,I6,w82,Lx,w84]
def d71 : D:=.agg [i 3,i 4,i 5,i 3,i 1,d70]
def w85 : List D:=r 4 0 6 5 4
def w86 : List D:=r 4 1 1 4 4
def w87 : List D:=r 4 2 2 3 4
def d72 : D:=.list [S7,S8,S9,ZE,Cw,ZF,w79,I5,I6,w82,Lx,w84,w85,w86,w87]
def d73 : D:=.agg [i 3,i 5,i 5,i 3,i 1,d72]
def OD : List D:=r 0 0 8 1 0
def OF : List D:=r 0 1 2 4 4
def OG : List D:=r 0 2 3 7 1
def OH : List D:=r 0 3 5 6 2
def d74 : D:=.agg [i 4,i 1,i 7,i 1,i 1,.list [OD,OF,OG,OH]]
def Sq : List D:=r 1 0 8 2 1
def Su : List D:=r 1 1 3 5 5
def Sv : List D:=r 1 2 4 1 2
def Sw : List D:=r 1 3 6 7 3
def d75 : D:=.list [OD,OF,OG,OH,Sq,Su,Sv,Sw]
def d76 : D:=.agg [i 4,i 2,i 7,i 1,i 1,d75]
def S_ : List D:=r 2 0 8 3 2
def Ta : List D:=r 2 1 4 6 6
def Tb : List D:=r 2 2 5 2 3
def Tc : List D:=r 2 3 7 1 4
def d77 : D:=.list [OD,OF,OG,OH,Sq,Su,Sv,Sw,S_,Ta,Tb,Tc]
def d78 : D:=.agg [i 4,i 3,i 7,i 1,i 1,d77]
def Li : List D:=r 3 0 8 4 3
def Lj : List D:=r 3 1 5 7 0
def Ll : List D:=r 3 2 6 3 4
def Lm : List D:=r 3 3 1 2 5
def d79 : D:=.list [OD,OF,OG,OH,Sq,Su,Sv,Sw,S_,Ta,Tb,Tc,Li,Lj,Ll,Lm]
def d80 : D:=.agg [i 4,i 4,i 7,i 1,i 1,d79]
def R9 : List D:=r 4 0 8 5 4
def R_ : List D:=r 4 1 6 1 1
def Sa : List D:=r 4 2 7 4 5
def Sb : List D:=r 4 3 2 3 6
def d81 : D:=.list [OD,OF,OG,OH,Sq,Su,Sv,Sw,S_,Ta,Tb,Tc,Li,Lj,Ll,Lm,R9,R_,Sa,Sb]
def d82 : D:=.agg [i 4,i 5,i 7,i 1,i 1,d81]
def Yr : List D:=r 5 0 8 6 5
def Ys : List D:=r 5 1 7 2 2
def Yt : List D:=r 5 2 1 5 6
def Yu : List D:=r 5 3 3 4 0
def d83 : D:=.list [OD,OF,OG,OH,Sq,Su,Sv,Sw,S_,Ta,Tb,Tc,Li,Lj,Ll,Lm,R9,R_,Sa,Sb,Yr,Ys,Yt,Yu]
def d84 : D:=.agg [i 4,i 6,i 7,i 1,i 1,d83]
def abY : List D:=r 6 0 8 7 6
def abZ : List D:=r 6 1 1 3 3
def ab0 : List D:=r 6 2 2 6 0
def ab1 : List D:=r 6 3 4 5 1
def d85 : D:=.list [OD,OF,OG,OH,Sq,Su,Sv,Sw,S_,Ta,Tb,Tc,Li,Lj,Ll,Lm,R9,R_,Sa,Sb,Yr,Ys,Yt,Yu,abY,abZ,ab0,ab1]
def d86 : D:=.agg [i 4,i 7,i 7,i 1,i 1,d85]
def vi : List D:=r 0 0 10 1 0
def vj : List D:=r 0 1 2 9 0
def vl : List D:=r 0 2 3 8 0
def vm : List D:=r 0 3 4 7 0
def vn : List D:=r 0 4 5 6 0
def d87 : D:=.list [vi,vj,vl,vm,vn]
def d88 : D:=.agg [i 5,i 1,i 9,i 5,i 1,d87]
def yq : List D:=r 1 0 10 2 1
def yr : List D:=r 1 2 4 9 1
def yu : List D:=r 1 3 5 8 1
def yw : List D:=r 1 4 6 7 1
def d89 : D:=.list [vi,vj,vl,vm,vn,yq,Cw,yr,yu,yw]
def d90 : D:=.agg [i 5,i 2,i 9,i 5,i 1,d89]
def AH : List D:=r 2 0 10 3 2
def AI : List D:=r 2 3 6 9 2
def AJ : List D:=r 2 4 7 8 2
def d91 : D:=.list [vi,vj,vl,vm,vn,yq,Cw,yr,yu,yw,AH,I5,I6,AI,AJ]
def d92 : D:=.agg [i 5,i 3,i 9,i 5,i 1,d91]
def Cr : List D:=r 3 0 10 4 3
def Ct : List D:=r 3 2 6 2 3
def Cu : List D:=r 3 3 7 1 3
def Cv : List D:=r 3 4 8 9 3
def d93 : D:=.list [vi,vj,vl,vm,vn,yq,Cw,yr,yu,yw,AH,I5,I6,AI,AJ,Cr,Lx,Ct,Cu,Cv]
def d94 : D:=.agg [i 5,i 4,i 9,i 5,i 1,d93]
def Ft : List D:=r 4 0 10 5 4
def Fu : List D:=r 4 1 6 4 4
def Fv : List D:=r 4 2 7 3 4
def Fw : List D:=r 4 3 8 2 4
def Fx : List D:=r 4 4 9 1 4
def d95 : D:=.list [vi,vj,vl,vm,vn,yq,Cw,yr,yu,yw,AH,I5,I6,AI,AJ,Cr,Lx,Ct,Cu,Cv,Ft,Fu,Fv,Fw,Fx]
def d96 : D:=.agg [i 5,i 5,i 9,i 5,i 1,d95]
def Lo : List D:=r 5 0 10 6 5
def Lp : List D:=r 5 1 7 5 5
def Lq : List D:=r 5 2 8 4 5
def Ls : List D:=r 5 3 9 3 5
def Lt : List D:=r 5 4 1 2 5
def d97 : D:=.list [vi,vj,vl,vm,vn,yq,Cw,yr,yu,yw,AH,I5,I6,AI,AJ,Cr,Lx,Ct,Cu,Cv,Ft,Fu,Fv,Fw,Fx,Lo,Lp,Lq,Ls,Lt]
def d98 : D:=.agg [i 5,i 6,i 9,i 5,i 1,d97]
def Sd : List D:=r 6 0 10 7 6
def Se : List D:=r 6 1 8 6 6
def Sf : List D:=r 6 2 9 5 6
def Sg : List D:=r 6 3 1 4 6
def Sh : List D:=r 6 4 2 3 6
def d99 : D:=.list [vi,vj,vl,vm,vn,yq,Cw,yr,yu,yw,AH,I5,I6,AI,AJ,Cr,Lx,Ct,Cu,Cv,Ft,Fu,Fv,Fw,Fx,Lo,Lp,Lq,Ls,Lt,Sd,Se,Sf,Sg,Sh]
def d100 : D:=.agg [i 5,i 7,i 9,i 5,i 1,d99]
def Yv : List D:=r 7 0 10 8 7
def Yw : List D:=r 7 1 9 7 7
def Yx : List D:=r 7 2 1 6 7
def Yy : List D:=r 7 3 2 5 7
def YA : List D:=r 7 4 3 4 7
def d101 : D:=.list [vi,vj,vl,vm,vn,yq,Cw,yr,yu,yw,AH,I5,I6,AI,AJ,Cr,Lx,Ct,Cu,Cv,Ft,Fu,Fv,Fw,Fx,Lo,Lp,Lq,Ls,Lt,Sd,Se,Sf,Sg,Sh,Yv,Yw,Yx,Yy,YA]
def d102 : D:=.agg [i 5,i 8,i 9,i 5,i 1,d101]
def ab2 : List D:=r 8 0 10 9 8
def ab3 : List D:=r 8 1 1 8 8
def ab4 : List D:=r 8 2 2 7 8
def ab5 : List D:=r 8 3 3 6 8
def ab6 : List D:=r 8 4 4 5 8
def d103 : D:=.list [vi,vj,vl,vm,vn,yq,Cw,yr,yu,yw,AH,I5,I6,AI,AJ,Cr,Lx,Ct,Cu,Cv,Ft,Fu,Fv,Fw,Fx,Lo,Lp,Lq,Ls,Lt,Sd,Se,Sf,Sg,Sh,Yv,Yw,Yx,Yy,YA,ab2,ab3,ab4,ab5,ab6]
def d104 : D:=.agg [i 5,i 9,i 9,i 5,i 1,d103]
def d105 : D:=.list [[i 1,i 4],[i 2,i 3]]
def d106 : D:=.list [[i 1,i 3],[i 2,i 6],[i 4,i 5]]
def d107 : D:=.list [[i 1,i 8],[i 2,i 7],[i 3,i 6],[i 4,i 5]]
def Fy : List D:=[i 0,i 0,i 1,i 1,u 1,u 0,F,u 4,u 3,u 0,u 0,i 10,i 0,u 0,u 0,u 0,u 0,i 0,i 0,u 0,u 0,u 0,u 0,i 0,i 0,u 0,u 0,u 0,u 0,i 0,i 0,i 0,i 0]
def Si : List D:=[i 1,i 2,i 1,i 1,u 1,u 0,F,u 4,u 3,u 0,u 0,i 11,i 0,u 0,u 0,u 0,u 0,i 0,i 0,u 0,u 0,u 0,u 0,i 0,i 0,u 0,u 0,u 0,u 0,i 0,i 0,i 0,i 0]
def FA : List D:=[i 2,i 1,i 1,i 1,u 1,u 0,F,u 4,u 3,u 0,u 0,i 9,i 0,u 0,u 0,u 0,u 0,i 0,i 0,u 0,u 0,u 0,u 0,i 0,i 0,u 0,u 0,u 0,u 0,i 0,i 0,i 0,i 0]
def d108 : D:=.tup [.list [Fy,Si,FA],i 0]
def Sj : List D:=[i 1,i 2,i 1,i 1,u 1,u 0,F,u 4,u 3,u 0,u 0,i 10,i 0,u 0,u 0,u 0,u 0,i 0,i 0,u 0,u 0,u 0,u 0,i 0,i 0,u 0,u 0,u 0,u 0,i 0,i 0,i 0,i 0]
def d109 : D:=.tup [.list [Fy,Sj,FA],i 0]
def d110 : D:=.tup [i 3,.agg [i 3,i 0,i 0,i 0],i 0]
def d111 : D:=.tup [i 0,.agg [i 0,i 0,i 0,i 0],i 0]
def ab7 : List D:=[u 4,u 3,u 0,u 0,i 10,i 100]
def d112 : D:=.tup [.list [[i 420,i 100]],i 0]
def d113 : D:=.agg [.v (.int .u64 0),.v (.int .u64 1)]
def d114 : D:=.agg [i 3,i 3,i 3,i 1,i 2,d5,i 1]
def ab8 : List D:=[i 0,i 0,i 1,i 1,i 4,i 2,i 1,i 2,i 1,i 4,T]
def ab9 : List D:=[i 1,i 2,i 1,i 3,i 5,i 4,i 1,i 0,i 1,i 4,T]
def YB : List D:=[i 2,i 1,i 1,i 2,i 6,i 0,i 1,i 4,i 1,i 4,T]
def ab' : List D:=[i 3,i 1,F,i 1,i 4,i 4,i 1,i 1,i 1]
def ab_ : List D:=[i 1,i 2,F,i 1,i 4,i 2,i 1,i 1,i 2]
def YC : List D:=[i 2,i 3,F,i 1,i 4,i 0,i 1,i 0,i 1]
def YD : List D:=[i 6,i 1,T,i 1,i 4,i 4,i 1,i 1,i 1]
def aca : List D:=[i 4,i 2,T,i 1,i 4,i 2,i 1,i 1,i 2]
def acb : List D:=[i 5,i 3,T,i 1,i 4,i 0,i 1,i 0,i 1]
def d115 : D:=.list [ab',ab_,YC,YD,aca,acb]
def d116 : D:=.tup [.undef,.tup [d115,i 0]]
def acd : List D:=[i 1,i 0,F,i 0,i 0,i 0,i 1,i 0,i 1]
def ace : List D:=[i 2,i 0,F,i 0,i 0,i 0,i 1,i 0,i 1]
def acf : List D:=[i 3,i 0,F,i 0,i 0,i 0,i 1,i 0,i 1]
def acg : List D:=[i 4,i 0,T,i 0,i 0,i 0,i 1,i 0,i 1]
def ach : List D:=[i 5,i 0,T,i 0,i 0,i 0,i 1,i 0,i 1]
def aci : List D:=[i 6,i 0,T,i 0,i 0,i 0,i 1,i 0,i 1]
def d117 : D:=.list [acd,ace,acf,acg,ach,aci]
def d118 : D:=.tup [.undef,.tup [d117,i 0]]
def acj : List D:=[i 0,i 0,i 1,i 1,i 4,i 3,i 1,i 1,i 1,i 4,T]
def ack : List D:=[i 1,i 2,i 1,i 3,i 5,i 3,i 1,i 1,i 1,i 4,T]
def acm : List D:=[i 1,i 1,F,i 1,i 4,i 3,i 1,i 3,i 4]
def acn : List D:=[i 3,i 1,F,i 1,i 4,i 3,i 1,i 3,i 4]
def aco : List D:=[i 4,i 2,T,i 1,i 4,i 1,i 1,i 1,i 4]
def acp : List D:=[i 5,i 2,T,i 1,i 4,i 1,i 1,i 1,i 4]
def d119 : D:=.list [acm,acn,YC,YD,aco,acp]
def d120 : D:=.tup [.undef,.tup [d119,i 0]]
def d121 : D:=.list [[i 1],[i 2],[i 3],[i 4],[i 5],[i 6]]
def d122 : D:=.tup [.undef,.tup [d121,i 0]]
def Qs : L:=[⟨[i 2,u 2],.tup [i 1,i 0]⟩,
 ⟨[i 4,u 2],.tup [i 3,i 0]⟩,
 ⟨[i 2,u 3],.tup [i 2,i 0]⟩,
 ⟨[i 4,u 3],.tup [i 4,i 0]⟩,
 ⟨[i 3,u 1],.tup [i 3,i 0]⟩,
 ⟨[i 5,u 1],.tup [i 5,i 0]⟩]
def fD : L:=[⟨[d1],.list [w0,w1,w2]⟩,
 ⟨[d2],d3⟩,
 ⟨[d4],d5⟩,
 ⟨[d6],d7⟩,
 ⟨[d8],d9⟩,
 ⟨[d10],d11⟩,
 ⟨[d12],d13⟩,
 ⟨[d14],d15⟩,
 ⟨[d17],.list [S0,w35]⟩,
 ⟨[d18],.list [Jc,Jd,ZA,ZB]⟩,
 ⟨[d19],d20⟩,
 ⟨[d21],d22⟩,
 ⟨[d24],.list [S0,ZC]⟩,
 ⟨[d25],.list [S0,ZC,w49,w50]⟩,
 ⟨[d26],.list [Jc,Jd,YE,YF]⟩,
 ⟨[d27],d28⟩,
 ⟨[d29],d30⟩,
 ⟨[d31],d32⟩]
def Qu : L:=[⟨[i 3,i 1,u 1],.tup [d33,i 0]⟩,
 ⟨[i 3,i 2,u 1],.tup [d34,i 0]⟩,
 ⟨[i 3,i 3,u 1],.tup [d35,i 0]⟩,
 ⟨[i 5,i 1,u 1],.tup [d36,i 0]⟩,
 ⟨[i 5,i 2,u 1],.tup [d37,i 0]⟩,
 ⟨[i 5,i 3,u 1],.tup [d38,i 0]⟩,
 ⟨[i 5,i 4,u 1],.tup [d39,i 0]⟩,
 ⟨[i 5,i 5,u 1],.tup [d40,i 0]⟩,
 ⟨[i 2,i 1,u 2],.tup [d41,i 0]⟩,
 ⟨[i 4,i 1,u 2],.tup [d42,i 0]⟩,
 ⟨[i 4,i 2,u 2],.tup [d43,i 0]⟩,
 ⟨[i 4,i 3,u 2],.tup [d44,i 0]⟩,
 ⟨[i 2,i 1,u 3],.tup [d45,i 0]⟩,
 ⟨[i 2,i 2,u 3],.tup [d46,i 0]⟩,
 ⟨[i 4,i 1,u 3],.tup [d47,i 0]⟩,
 ⟨[i 4,i 2,u 3],.tup [d48,i 0]⟩,
 ⟨[i 4,i 3,u 3],.tup [d49,i 0]⟩,
 ⟨[i 4,i 4,u 3],.tup [d50,i 0]⟩]
def Qt : L:=[⟨[i 5,i 1],.tup [d52,i 0]⟩,
 ⟨[i 5,i 2],.tup [d54,i 0]⟩,
 ⟨[i 5,i 3],.tup [d56,i 0]⟩,
 ⟨[i 5,i 4],.tup [d58,i 0]⟩,
 ⟨[i 5,i 5],.tup [d60,i 0]⟩]
def Qv : L:=[⟨[i 4],.tup [d106,i 0]⟩]
def Qy : L:=[⟨[i 5,d105],.tup [F,i 0]⟩,
 ⟨[i 7,d106],.tup [T,i 0]⟩,
 ⟨[i 9,d107],.tup [F,i 0]⟩]
def Qr : L:=[⟨[i 2,i 1],.tup [d61,i 0]⟩,
 ⟨[i 2,i 2],.tup [d62,i 0]⟩,
 ⟨[i 2,i 3],.tup [d64,i 0]⟩,
 ⟨[i 3,i 1],.tup [d65,i 0]⟩,
 ⟨[i 3,i 2],.tup [d67,i 0]⟩,
 ⟨[i 3,i 3],.tup [d69,i 0]⟩,
 ⟨[i 3,i 4],.tup [d71,i 0]⟩,
 ⟨[i 3,i 5],.tup [d73,i 0]⟩,
 ⟨[i 4,i 1],.tup [d74,i 0]⟩,
 ⟨[i 4,i 2],.tup [d76,i 0]⟩,
 ⟨[i 4,i 3],.tup [d78,i 0]⟩,
 ⟨[i 4,i 4],.tup [d80,i 0]⟩,
 ⟨[i 4,i 5],.tup [d82,i 0]⟩,
 ⟨[i 4,i 6],.tup [d84,i 0]⟩,
 ⟨[i 4,i 7],.tup [d86,i 0]⟩,
 ⟨[i 5,i 1],.tup [d88,i 0]⟩,
 ⟨[i 5,i 2],.tup [d90,i 0]⟩,
 ⟨[i 5,i 3],.tup [d92,i 0]⟩,
 ⟨[i 5,i 4],.tup [d94,i 0]⟩,
 ⟨[i 5,i 5],.tup [d96,i 0]⟩,
 ⟨[i 5,i 6],.tup [d98,i 0]⟩,
 ⟨[i 5,i 7],.tup [d100,i 0]⟩,
 ⟨[i 5,i 8],.tup [d102,i 0]⟩,
 ⟨[i 5,i 9],.tup [d104,i 0]⟩]
def pf : L:=[v w9,
 v I0,
 v I1,
 v I3,
 v I4,
 v Lr,
 v Lu,
 v Lv,
 v Lw,
 v Sl,
 v Sm,
 v Sn,
 v Sp,
 v Jc,
 v Jd,
 v S4,
 v S5,
 v S6,
 v Cw,
 v S7,
 v S8,
 v S9,
 v I5,
 v I6,
 v Lx,
 v OD,
 v OF,
 v OG,
 v OH,
 v Sq,
 v Su,
 v Sv,
 v Sw,
 v S_,
 v Ta,
 v Tb,
 v Tc,
 v vi,
 v vj,
 v vl,
 v vm,
 v vn,
 v yq,
 v yr,
 v yu,
 v yw,
 v AH,
 v AI,
 v AJ,
 v Cr,
 v Ct,
 v Cu,
 v Cv,
 v Ft,
 v Fu,
 v Fv,
 v Fw,
 v Fx]
def gz : L:=[⟨[i 0,i 1],F⟩,
 ⟨[i 0,i 3],F⟩,
 ⟨[i 1,i 3],F⟩,
 ⟨[i 2,i 3],F⟩,
 ⟨[i 0,i 2],F⟩,
 ⟨[i 1,i 2],F⟩,
 ⟨[i 0,i 5],F⟩,
 ⟨[i 1,i 5],F⟩,
 ⟨[i 2,i 5],F⟩,
 ⟨[i 3,i 5],F⟩,
 ⟨[i 4,i 5],F⟩,
 ⟨[i 0,i 4],F⟩,
 ⟨[i 1,i 4],F⟩,
 ⟨[i 2,i 4],F⟩,
 ⟨[i 3,i 4],F⟩]
def pe : L:=[t d33,
 t d34,
 t d35,
 t d36,
 t d37,
 t d38,
 t d39,
 t d40,
 t d41,
 t d42,
 t d43,
 t d44,
 t d45,
 t d46,
 t d47,
 t d48,
 t d49,
 t d50,
 t d52,
 t d54,
 t d56,
 t d58,
 t d60,
 t d61,
 t d62,
 t d64,
 t d65,
 t d67,
 t d69,
 t d71,
 t d73,
 t d74,
 t d76,
 t d78,
 t d80,
 t d82,
 t d84,
 t d86,
 t d88,
 t d90,
 t d92,
 t d94,
 t d96,
 t d98,
 t d100,
 t d102,
 t d104]
def Hc : L:=[q d33 1,
 q d33 2,
 q d34 1,
 q d34 2,
 q d35 1,
 q d35 2,
 q d36 1,
 q d36 2,
 q d37 1,
 q d37 2,
 q d38 1,
 q d38 2,
 q d39 1,
 q d39 2,
 q d40 1,
 q d40 2,
 q d41 1,
 q d41 2,
 q d42 1,
 q d42 2,
 q d43 1,
 q d43 2,
 q d44 1,
 q d44 2,
 q d45 1,
 q d45 2,
 q d46 1,
 q d46 2,
 q d47 1,
 q d47 2,
 q d48 1,
 q d48 2,
 q d49 1,
 q d49 2,
 q d50 1,
 q d50 2,
 q d52 1,
 q d52 2,
 q d54 1,
 q d54 2,
 q d56 1,
 q d56 2,
 q d58 1,
 q d58 2,
 q d60 1,
 q d60 2,
 q d61 1,
 q d61 2,
 q d62 1,
 q d62 2,
 q d64 1,
 q d64 2,
 q d65 1,
 q d65 2,
 q d67 1,
 q d67 2,
 q d69 1,
 q d69 2,
 q d71 1,
 q d71 2,
 q d73 1,
 q d73 2,
 q d74 1,
 q d74 2,
 q d76 1,
 q d76 2,
 q d78 1,
 q d78 2,
 q d80 1,
 q d80 2,
 q d82 1,
 q d82 2,
 q d84 1,
 q d84 2,
 q d86 1,
 q d86 2,
 q d88 1,
 q d88 2,
 q d90 1,
 q d90 2,
 q d92 1,
 q d92 2,
 q d94 1,
 q d94 2,
 q d96 1,
 q d96 2,
 q d98 1,
 q d98 2,
 q d100 1,
 q d100 2,
 q d102 1,
 q d102 2,
 q d104 1,
 q d104 2]
def Ze : L:=[⟨[d114],d122⟩]
def SR : L:=[⟨[d114,.list [ab8,ab9,YB]],d116⟩,
 ⟨[d114,.list []],d118⟩,
 ⟨[d114,.list [acj,ack,YB]],d120⟩]
def k31 : L:=[⟨[.list [Fy,Si,FA]],.tup [.undef,d108]⟩,
 ⟨[.list [Fy,Sj,FA]],.tup [.undef,d109]⟩]
def Hb : L:=[⟨[.agg [u 4,u 3,u 0,u 0]],T⟩]
def Qq : L:=[⟨[.list [Fy,Si,FA]],d110⟩,
 ⟨[.list []],d111⟩,
 ⟨[.list [Fy,Sj,FA]],d110⟩]
def Ka : L:=[⟨[F,d113,d113],.tup [.agg [i 1,i 1],i 0]⟩]
def Qz : L:=[⟨[.list [ab7],u 0],.tup [.undef,d112]⟩]
def k71 : L:=[⟨[.agg [i 4,i 1]],T⟩,
 ⟨[.agg [i 0,i 1]],T⟩]
def k78 : L:=[⟨[.v (.int .u64 1),.v (.int .u64 1)],d113⟩]
def QA : L:=[⟨[.agg [i 2,i 1],i 3,i 3],.tup [.agg [i 2,i 1],i 0]⟩,
 ⟨[.agg [i 4,i 1],i 3,i 3],.tup [.agg [i 4,i 1],i 0]⟩,
 ⟨[.agg [i 0,i 1],i 3,i 3],.tup [.agg [i 0,i 1],i 0]⟩,
 ⟨[.agg [i 3,i 1],i 3,i 3],.tup [.agg [i 3,i 1],i 0]⟩,
 ⟨[.agg [i 1,i 1],i 3,i 3],.tup [.agg [i 1,i 1],i 0]⟩]
def SQ : L:=[⟨[],T⟩]
end
end ak
end Go.Proofs.YtdepmampjnlgiaaGreatDoor
