/- Calls and what they give, as data. No condition. -/
import Derived.Test.YtkcfpgaepmllhaaGreatDoorFag
namespace Go.Proofs.YtkcfpgaepmllhaaGreatDoor
namespace ak
set_option maxRecDepth 100000
abbrev i (z : Int) : D:=iv z
abbrev u (z : Int) : D:=.v (.int .u8 z)
abbrev T : D:=bv true
abbrev F : D:=bv false
abbrev L:=List cV
abbrev r (a b c d e : Int) : List D:=[i a,i b,i c,i d,i e]
def se (m : D) (z : Int) : D:=match m with
  | .agg c=>.agg (c ++ [i z])
  | m=>m
def q (m : D) (z : Int) : cV:=⟨[se m z],i 0⟩
def t (m : D) : cV:=⟨[m,i 9223372036854775807],.tup [T,i 0]⟩
def v (w : List D) : cV:=⟨[.agg w],T⟩
noncomputable section
def d0 : D:=.lptr [F,i 0,i 1,.clo 270 [],.clo 271 []]
def d1 : D:=.clo 252 [.lptr [i 1],.lptr [i 3],d0]
def w0 : List D:=r 0 0 1 4 0
def w1 : List D:=r 0 1 2 5 1
def w2 : List D:=r 0 2 3 6 2
def d2 : D:=.clo 252 [.lptr [i 2],.lptr [i 3],d0]
def w3 : List D:=r 1 0 1 6 1
def w4 : List D:=r 1 1 2 4 2
def w5 : List D:=r 1 2 3 5 0
def d3 : D:=.list [w0,w1,w2,w3,w4,w5]
def d4 : D:=.clo 252 [.lptr [i 3],.lptr [i 3],d0]
def w6 : List D:=r 2 0 1 5 2
def w7 : List D:=r 2 1 2 6 0
def w8 : List D:=r 2 2 3 4 1
def d5 : D:=.list [w0,w1,w2,w3,w4,w5,w6,w7,w8]
def d6 : D:=.clo 252 [.lptr [i 1],.lptr [i 5],d0]
def w9 : List D:=r 0 0 1 6 0
def Km : List D:=r 0 1 2 7 1
def Kn : List D:=r 0 2 3 8 2
def Ko : List D:=r 0 3 4 9 3
def Kq : List D:=r 0 4 5 10 4
def d7 : D:=.list [w9,Km,Kn,Ko,Kq]
def d8 : D:=.clo 252 [.lptr [i 2],.lptr [i 5],d0]
def Nj : List D:=r 1 0 1 10 1
def Nn : List D:=r 1 1 2 6 2
def w16 : List D:=r 1 2 3 7 3
def No : List D:=r 1 3 4 8 4
def Np : List D:=r 1 4 5 9 0
def d9 : D:=.list [w9,Km,Kn,Ko,Kq,Nj,Nn,w16,No,Np]
def d10 : D:=.clo 252 [.lptr [i 3],.lptr [i 5],d0]
def Vb : List D:=r 2 0 1 9 2
def Vc : List D:=r 2 1 2 10 3
def Vd : List D:=r 2 2 3 6 4
def Ve : List D:=r 2 3 4 7 0
def w23 : List D:=r 2 4 5 8 1
def d11 : D:=.list [w9,Km,Kn,Ko,Kq,Nj,Nn,w16,No,Np,Vb,Vc,Vd,Ve,w23]
def d12 : D:=.clo 252 [.lptr [i 4],.lptr [i 5],d0]
def w24 : List D:=r 3 0 1 8 3
def w25 : List D:=r 3 1 2 9 4
def w26 : List D:=r 3 2 3 10 0
def w27 : List D:=r 3 3 4 6 1
def w28 : List D:=r 3 4 5 7 2
def d13 : D:=.list [w9,Km,Kn,Ko,Kq,Nj,Nn,w16,No,Np,Vb,Vc,Vd,Ve,w23,w24,w25,w26,w27,w28]
def d14 : D:=.clo 252 [.lptr [i 5],.lptr [i 5],d0]
def w29 : List D:=r 4 0 1 7 4
def w30 : List D:=r 4 1 2 8 0
def w31 : List D:=r 4 2 3 9 1
def w32 : List D:=r 4 3 4 10 2
def w33 : List D:=r 4 4 5 6 3
def d15 : D:=.list [w9,Km,Kn,Ko,Kq,Nj,Nn,w16,No,Np,Vb,Vc,Vd,Ve,w23,w24,w25,w26,w27,w28,w29,w30,w31,w32,w33]
def d16 : D:=.lptr [T,i 1,i 1,.clo 272 [],.clo 271 []]
def d17 : D:=.clo 252 [.lptr [i 1],.lptr [i 2],d16]
def VF : List D:=r 0 0 1 3 0
def w35 : List D:=r 0 1 2 4 1
def d18 : D:=.clo 252 [.lptr [i 1],.lptr [i 4],d16]
def KH : List D:=r 0 0 1 5 0
def KI : List D:=r 0 1 2 6 1
def w38 : List D:=r 0 2 3 7 2
def w39 : List D:=r 0 3 4 8 3
def d19 : D:=.clo 252 [.lptr [i 2],.lptr [i 4],d16]
def VG : List D:=r 1 0 1 8 1
def VH : List D:=r 1 1 2 5 2
def w42 : List D:=r 1 2 3 6 3
def w43 : List D:=r 1 3 4 7 0
def d20 : D:=.list [KH,KI,w38,w39,VG,VH,w42,w43]
def d21 : D:=.clo 252 [.lptr [i 3],.lptr [i 4],d16]
def w44 : List D:=r 2 0 1 6 2
def w45 : List D:=r 2 1 2 7 3
def w46 : List D:=r 2 2 3 8 0
def w47 : List D:=r 2 3 4 5 1
def d22 : D:=.list [KH,KI,w38,w39,VG,VH,w42,w43,w44,w45,w46,w47]
def d23 : D:=.lptr [T,i 0,i 2,.clo 270 [],.clo 273 []]
def d24 : D:=.clo 252 [.lptr [i 1],.lptr [i 2],d23]
def w48 : List D:=r 0 1 2 4 0
def d25 : D:=.clo 252 [.lptr [i 2],.lptr [i 2],d23]
def w49 : List D:=r 1 0 1 4 1
def w50 : List D:=r 1 1 2 3 1
def d26 : D:=.clo 252 [.lptr [i 1],.lptr [i 4],d23]
def w51 : List D:=r 0 2 3 7 3
def w52 : List D:=r 0 3 4 8 0
def d27 : D:=.clo 252 [.lptr [i 2],.lptr [i 4],d23]
def w53 : List D:=r 1 2 3 6 0
def w54 : List D:=r 1 3 4 7 1
def d28 : D:=.list [KH,KI,w51,w52,VG,VH,w53,w54]
def d29 : D:=.clo 252 [.lptr [i 3],.lptr [i 4],d23]
def w55 : List D:=r 2 0 1 7 2
def w56 : List D:=r 2 1 2 8 3
def w57 : List D:=r 2 2 3 5 1
def w58 : List D:=r 2 3 4 6 2
def d30 : D:=.list [KH,KI,w51,w52,VG,VH,w53,w54,w55,w56,w57,w58]
def d31 : D:=.clo 252 [.lptr [i 4],.lptr [i 4],d23]
def w59 : List D:=r 3 0 1 6 3
def w60 : List D:=r 3 1 2 7 0
def w61 : List D:=r 3 2 3 8 2
def w62 : List D:=r 3 3 4 5 3
def d32 : D:=.list [KH,KI,w51,w52,VG,VH,w53,w54,w55,w56,w57,w58,w59,w60,w61,w62]
def d33 : D:=.agg [i 3,i 1,i 3,i 1,i 2,.list [w0,w1,w2]]
def d34 : D:=.agg [i 3,i 2,i 3,i 1,i 2,d3]
def d35 : D:=.agg [i 3,i 3,i 3,i 1,i 2,d5]
def d36 : D:=.agg [i 5,i 1,i 5,i 1,i 2,d7]
def d37 : D:=.agg [i 5,i 2,i 5,i 1,i 2,d9]
def d38 : D:=.agg [i 5,i 3,i 5,i 1,i 2,d11]
def d39 : D:=.agg [i 5,i 4,i 5,i 1,i 2,d13]
def d40 : D:=.agg [i 5,i 5,i 5,i 1,i 2,d15]
def d41 : D:=.agg [i 2,i 1,i 2,i 1,i 2,.list [VF,w35]]
def d42 : D:=.agg [i 4,i 1,i 4,i 1,i 2,.list [KH,KI,w38,w39]]
def d43 : D:=.agg [i 4,i 2,i 4,i 1,i 2,d20]
def d44 : D:=.agg [i 4,i 3,i 4,i 1,i 2,d22]
def d45 : D:=.agg [i 2,i 1,i 2,i 2,i 2,.list [VF,w48]]
def d46 : D:=.agg [i 2,i 2,i 2,i 2,i 2,.list [VF,w48,w49,w50]]
def d47 : D:=.agg [i 4,i 1,i 4,i 2,i 2,.list [KH,KI,w51,w52]]
def d48 : D:=.agg [i 4,i 2,i 4,i 2,i 2,d28]
def d49 : D:=.agg [i 4,i 3,i 4,i 2,i 2,d30]
def d50 : D:=.agg [i 4,i 4,i 4,i 2,i 2,d32]
def VI : List D:=r 0 0 11 6 0
def d51 : D:=.list [VI,Km,Kn,Ko,Kq]
def d52 : D:=.agg [i 5,i 1,i 5,i 1,i 2,d51]
def w64 : List D:=r 1 2 11 7 3
def d53 : D:=.list [VI,Km,Kn,Ko,Kq,Nj,Nn,w64,No,Np]
def d54 : D:=.agg [i 5,i 2,i 5,i 1,i 2,d53]
def w65 : List D:=r 2 4 11 8 1
def d55 : D:=.list [VI,Km,Kn,Ko,Kq,Nj,Nn,w64,No,Np,Vb,Vc,Vd,Ve,w65]
def d56 : D:=.agg [i 5,i 3,i 5,i 1,i 2,d55]
def w66 : List D:=r 3 1 11 9 4
def d57 : D:=.list [VI,Km,Kn,Ko,Kq,Nj,Nn,w64,No,Np,Vb,Vc,Vd,Ve,w65,w24,w66,w26,w27,w28]
def d58 : D:=.agg [i 5,i 4,i 5,i 1,i 2,d57]
def w67 : List D:=r 4 3 11 10 2
def d59 : D:=.list [VI,Km,Kn,Ko,Kq,Nj,Nn,w64,No,Np,Vb,Vc,Vd,Ve,w65,w24,w66,w26,w27,w28,w29,w30,w31,w67,w33]
def d60 : D:=.agg [i 5,i 5,i 5,i 1,i 2,d59]
def w68 : List D:=r 0 0 4 1 0
def w69 : List D:=r 0 1 2 3 0
def d61 : D:=.agg [i 2,i 1,i 3,i 2,i 1,.list [w68,w69]]
def w70 : List D:=r 1 0 4 2 1
def D5 : List D:=r 1 1 3 1 1
def d62 : D:=.agg [i 2,i 2,i 3,i 2,i 1,.list [w68,w69,w70,D5]]
def w72 : List D:=r 2 0 4 3 2
def w73 : List D:=r 2 1 1 2 2
def d63 : D:=.list [w68,w69,w70,D5,w72,w73]
def d64 : D:=.agg [i 2,i 3,i 3,i 2,i 1,d63]
def VJ : List D:=r 0 0 6 1 0
def VK : List D:=r 0 1 2 5 0
def VL : List D:=r 0 2 3 4 0
def d65 : D:=.agg [i 3,i 1,i 5,i 3,i 1,.list [VJ,VK,VL]]
def w77 : List D:=r 1 0 6 2 1
def w78 : List D:=r 1 2 4 5 1
def d66 : D:=.list [VJ,VK,VL,w77,D5,w78]
def d67 : D:=.agg [i 3,i 2,i 5,i 3,i 1,d66]
def w79 : List D:=r 2 0 6 3 2
def Ks : List D:=r 2 1 4 2 2
def Kt : List D:=r 2 2 5 1 2
def d68 : D:=.list [VJ,VK,VL,w77,D5,w78,w79,Ks,Kt]
def d69 : D:=.agg [i 3,i 3,i 5,i 3,i 1,d68]
def w82 : List D:=r 3 0 6 4 3
def Nq : List D:=r 3 1 5 3 3
def w84 : List D:=r 3 2 1 2 3
def d70 : D:=.list [VJ,VK,VL,w77,D5,w78,w79,Ks,Kt,w82,Nq,w84]
def d71 : D:=.agg [i 3,i 4,i 5,i 3,i 1,d70]
def w85 : List D:=r 4 0 6 5 4
def w86 : List D:=r 4 1 1 4 4
def w87 : List D:=r 4 2 2 3 4
def d72 : D:=.list [VJ,VK,VL,w77,D5,w78,w79,Ks,Kt,w82,Nq,w84,w85,w86,w87]
def d73 : D:=.agg [i 3,i 5,i 5,i 3,i 1,d72]
def RP : List D:=r 0 0 8 1 0
def RQ : List D:=r 0 1 2 4 4
def RR : List D:=r 0 2 3 7 1
def RT : List D:=r 0 3 5 6 2
def d74 : D:=.agg [i 4,i 1,i 7,i 1,i 1,.list [RP,RQ,RR,RT]]
def Vf : List D:=r 1 0 8 2 1
def Vg : List D:=r 1 1 3 5 5
def Vh : List D:=r 1 2 4 1 2
def Vi : List D:=r 1 3 6 7 3
def d75 : D:=.list [RP,RQ,RR,RT,Vf,Vg,Vh,Vi]
def d76 : D:=.agg [i 4,i 2,i 7,i 1,i 1,d75]
def VM : List D:=r 2 0 8 3 2
def VN : List D:=r 2 1 4 6 6
def VO : List D:=r 2 2 5 2 3
def VP : List D:=r 2 3 7 1 4
def d77 : D:=.list [RP,RQ,RR,RT,Vf,Vg,Vh,Vi,VM,VN,VO,VP]
def d78 : D:=.agg [i 4,i 3,i 7,i 1,i 1,d77]
def Nb : List D:=r 3 0 8 4 3
def Nc : List D:=r 3 1 5 7 0
def Nd : List D:=r 3 2 6 3 4
def Nf : List D:=r 3 3 1 2 5
def d79 : D:=.list [RP,RQ,RR,RT,Vf,Vg,Vh,Vi,VM,VN,VO,VP,Nb,Nc,Nd,Nf]
def d80 : D:=.agg [i 4,i 4,i 7,i 1,i 1,d79]
def U2 : List D:=r 4 0 8 5 4
def U3 : List D:=r 4 1 6 1 1
def U4 : List D:=r 4 2 7 4 5
def U5 : List D:=r 4 3 2 3 6
def d81 : D:=.list [RP,RQ,RR,RT,Vf,Vg,Vh,Vi,VM,VN,VO,VP,Nb,Nc,Nd,Nf,U2,U3,U4,U5]
def d82 : D:=.agg [i 4,i 5,i 7,i 1,i 1,d81]
def aa3 : List D:=r 5 0 8 6 5
def aa4 : List D:=r 5 1 7 2 2
def aa5 : List D:=r 5 2 1 5 6
def aa6 : List D:=r 5 3 3 4 0
def d83 : D:=.list [RP,RQ,RR,RT,Vf,Vg,Vh,Vi,VM,VN,VO,VP,Nb,Nc,Nd,Nf,U2,U3,U4,U5,aa3,aa4,aa5,aa6]
def d84 : D:=.agg [i 4,i 6,i 7,i 1,i 1,d83]
def aeY : List D:=r 6 0 8 7 6
def aeZ : List D:=r 6 1 1 3 3
def ae0 : List D:=r 6 2 2 6 0
def ae1 : List D:=r 6 3 4 5 1
def d85 : D:=.list [RP,RQ,RR,RT,Vf,Vg,Vh,Vi,VM,VN,VO,VP,Nb,Nc,Nd,Nf,U2,U3,U4,U5,aa3,aa4,aa5,aa6,aeY,aeZ,ae0,ae1]
def d86 : D:=.agg [i 4,i 7,i 7,i 1,i 1,d85]
def wE : List D:=r 0 0 10 1 0
def wG : List D:=r 0 1 2 9 0
def wH : List D:=r 0 2 3 8 0
def wI : List D:=r 0 3 4 7 0
def wJ : List D:=r 0 4 5 6 0
def d87 : D:=.list [wE,wG,wH,wI,wJ]
def d88 : D:=.agg [i 5,i 1,i 9,i 5,i 1,d87]
def zT : List D:=r 1 0 10 2 1
def zU : List D:=r 1 2 4 9 1
def zV : List D:=r 1 3 5 8 1
def zW : List D:=r 1 4 6 7 1
def d89 : D:=.list [wE,wG,wH,wI,wJ,zT,D5,zU,zV,zW]
def d90 : D:=.agg [i 5,i 2,i 9,i 5,i 1,d89]
def Cg : List D:=r 2 0 10 3 2
def Ch : List D:=r 2 3 6 9 2
def Ci : List D:=r 2 4 7 8 2
def d91 : D:=.list [wE,wG,wH,wI,wJ,zT,D5,zU,zV,zW,Cg,Ks,Kt,Ch,Ci]
def d92 : D:=.agg [i 5,i 3,i 9,i 5,i 1,d91]
def D1 : List D:=r 3 0 10 4 3
def D2 : List D:=r 3 2 6 2 3
def D3 : List D:=r 3 3 7 1 3
def D4 : List D:=r 3 4 8 9 3
def d93 : D:=.list [wE,wG,wH,wI,wJ,zT,D5,zU,zV,zW,Cg,Ks,Kt,Ch,Ci,D1,Nq,D2,D3,D4]
def d94 : D:=.agg [i 5,i 4,i 9,i 5,i 1,d93]
def G8 : List D:=r 4 0 10 5 4
def G9 : List D:=r 4 1 6 4 4
def G' : List D:=r 4 2 7 3 4
def G_ : List D:=r 4 3 8 2 4
def Ha : List D:=r 4 4 9 1 4
def d95 : D:=.list [wE,wG,wH,wI,wJ,zT,D5,zU,zV,zW,Cg,Ks,Kt,Ch,Ci,D1,Nq,D2,D3,D4,G8,G9,G',G_,Ha]
def d96 : D:=.agg [i 5,i 5,i 9,i 5,i 1,d95]
def Ng : List D:=r 5 0 10 6 5
def Nh : List D:=r 5 1 7 5 5
def Ni : List D:=r 5 2 8 4 5
def Nk : List D:=r 5 3 9 3 5
def Nl : List D:=r 5 4 1 2 5
def d97 : D:=.list [wE,wG,wH,wI,wJ,zT,D5,zU,zV,zW,Cg,Ks,Kt,Ch,Ci,D1,Nq,D2,D3,D4,G8,G9,G',G_,Ha,Ng,Nh,Ni,Nk,Nl]
def d98 : D:=.agg [i 5,i 6,i 9,i 5,i 1,d97]
def U6 : List D:=r 6 0 10 7 6
def U7 : List D:=r 6 1 8 6 6
def U8 : List D:=r 6 2 9 5 6
def U9 : List D:=r 6 3 1 4 6
def U_ : List D:=r 6 4 2 3 6
def d99 : D:=.list [wE,wG,wH,wI,wJ,zT,D5,zU,zV,zW,Cg,Ks,Kt,Ch,Ci,D1,Nq,D2,D3,D4,G8,G9,G',G_,Ha,Ng,Nh,Ni,Nk,Nl,U6,U7,U8,U9,U_]
def d100 : D:=.agg [i 5,i 7,i 9,i 5,i 1,d99]
def aa7 : List D:=r 7 0 10 8 7
def aa8 : List D:=r 7 1 9 7 7
def aa9 : List D:=r 7 2 1 6 7
def aa' : List D:=r 7 3 2 5 7
def aa_ : List D:=r 7 4 3 4 7
def d101 : D:=.list [wE,wG,wH,wI,wJ,zT,D5,zU,zV,zW,Cg,Ks,Kt,Ch,Ci,D1,Nq,D2,D3,D4,G8,G9,G',G_,Ha,Ng,Nh,Ni,Nk,Nl,U6,U7,U8,U9,U_,aa7,aa8,aa9,aa',aa_]
def d102 : D:=.agg [i 5,i 8,i 9,i 5,i 1,d101]
def ae2 : List D:=r 8 0 10 9 8
def ae3 : List D:=r 8 1 1 8 8
def ae4 : List D:=r 8 2 2 7 8
def ae5 : List D:=r 8 3 3 6 8
def ae6 : List D:=r 8 4 4 5 8
def d103 : D:=.list [wE,wG,wH,wI,wJ,zT,D5,zU,zV,zW,Cg,Ks,Kt,Ch,Ci,D1,Nq,D2,D3,D4,G8,G9,G',G_,Ha,Ng,Nh,Ni,Nk,Nl,U6,U7,U8,U9,U_,aa7,aa8,aa9,aa',aa_,ae2,ae3,ae4,ae5,ae6]
def d104 : D:=.agg [i 5,i 9,i 9,i 5,i 1,d103]
def d105 : D:=.list [[i 1,i 4],[i 2,i 3]]
def d106 : D:=.list [[i 1,i 3],[i 2,i 6],[i 4,i 5]]
def d107 : D:=.list [[i 1,i 8],[i 2,i 7],[i 3,i 6],[i 4,i 5]]
def Cj : List D:=[i 0,i 0,i 1,i 1,u 1,u 0,F,u 4,u 3,u 0,u 0,i 10,i 0,u 0,u 0,u 0,u 0,i 0,i 0,u 0,u 0,u 0,u 0,i 0,i 0,u 0,u 0,u 0,u 0,i 0,i 0,i 0,i 0]
def Kr : List D:=[i 1,i 2,i 1,i 1,u 1,u 0,F,u 4,u 3,u 0,u 0,i 11,i 0,u 0,u 0,u 0,u 0,i 0,i 0,u 0,u 0,u 0,u 0,i 0,i 0,u 0,u 0,u 0,u 0,i 0,i 0,i 0,i 0]
def Hb : List D:=[i 2,i 1,i 1,i 1,u 1,u 0,F,u 4,u 3,u 0,u 0,i 9,i 0,u 0,u 0,u 0,u 0,i 0,i 0,u 0,u 0,u 0,u 0,i 0,i 0,u 0,u 0,u 0,u 0,i 0,i 0,i 0,i 0]
def d108 : D:=.tup [.list [Cj,Kr,Hb],i 0]
def Va : List D:=[i 1,i 2,i 1,i 1,u 1,u 0,T,u 4,u 3,u 0,u 0,i 11,i 0,u 0,u 0,u 0,u 0,i 0,i 0,u 0,u 0,u 0,u 0,i 0,i 0,u 0,u 0,u 0,u 0,i 0,i 0,i 0,i 0]
def d109 : D:=.tup [.list [Cj,Va,Hb],i 0]
def d110 : D:=.tup [.list [Cj,Kr],i 0]
def d111 : D:=.agg [i 0,i 0,i 1,i 1,u 1,u 0,F,u 4,u 3,u 0,u 0,i 10,i 0,u 0,u 0,u 0,u 0,i 0,i 0,u 0,u 0,u 0,u 0,i 0,i 0,u 0,u 0,u 0,u 0,i 0,i 0,i 0,i 0]
def d112 : D:=.agg [i 1,i 2,i 1,i 1,u 1,u 0,F,u 4,u 3,u 0,u 0,i 11,i 0,u 0,u 0,u 0,u 0,i 0,i 0,u 0,u 0,u 0,u 0,i 0,i 0,u 0,u 0,u 0,u 0,i 0,i 0,i 0,i 0]
def d113 : D:=.tup [i 3,.agg [i 3,i 0,i 0,i 0],i 0]
def ae7 : List D:=[u 4,u 3,u 0,u 0,i 11,i 100]
def d114 : D:=.tup [.list [[i 450,i 100]],i 0]
def ae8 : List D:=[.list [[i (-50),i 100]]]
def d115 : D:=.list [[.list [[i 420,i 100]]],[.list [[i 450,i 100]]],ae8]
def d116 : D:=.list [[i 2,i 1],[i 4,i 1],[i 0,i 1]]
def d117 : D:=.tup [.undef,.tup [d116,i 0]]
def ae9 : List D:=[.list [[i (-420),i 100]]]
def ae' : List D:=[.list [[i (-450),i 100]]]
def d118 : D:=.list [ae9,ae',[.list [[i 50,i 100]]]]
def d119 : D:=.list [[i 2,i 1],[i 0,i 1],[i 4,i 1]]
def d120 : D:=.tup [.undef,.tup [d119,i 0]]
def TB : L:=[⟨[i 2,u 2],.tup [i 1,i 0]⟩,
 ⟨[i 4,u 2],.tup [i 3,i 0]⟩,
 ⟨[i 2,u 3],.tup [i 2,i 0]⟩,
 ⟨[i 4,u 3],.tup [i 4,i 0]⟩,
 ⟨[i 3,u 1],.tup [i 3,i 0]⟩,
 ⟨[i 5,u 1],.tup [i 5,i 0]⟩]
def fX : L:=[⟨[d1],.list [w0,w1,w2]⟩,
 ⟨[d2],d3⟩,
 ⟨[d4],d5⟩,
 ⟨[d6],d7⟩,
 ⟨[d8],d9⟩,
 ⟨[d10],d11⟩,
 ⟨[d12],d13⟩,
 ⟨[d14],d15⟩,
 ⟨[d17],.list [VF,w35]⟩,
 ⟨[d18],.list [KH,KI,w38,w39]⟩,
 ⟨[d19],d20⟩,
 ⟨[d21],d22⟩,
 ⟨[d24],.list [VF,w48]⟩,
 ⟨[d25],.list [VF,w48,w49,w50]⟩,
 ⟨[d26],.list [KH,KI,w51,w52]⟩,
 ⟨[d27],d28⟩,
 ⟨[d29],d30⟩,
 ⟨[d31],d32⟩]
def TD : L:=[⟨[i 3,i 1,u 1],.tup [d33,i 0]⟩,
 ⟨[i 3,i 2,u 1],.tup [d34,i 0]⟩,
 ⟨[i 3,i 3,u 1],.tup [d35,i 0]⟩,
 ⟨[i 5,i 1,u 1],.tup [d36,i 0]⟩,
 ⟨[i 5,i 2,u 1],.tup [d37,i 0]⟩,
 ⟨[i 5,i 3,u 1],.tup [d38,i 0]⟩,
 ⟨[i 5,i 4,u 1],.tup [d39,i 0]⟩,
 ⟨[i 5,i 5,u 1],.tup [d40,i 0]⟩,
 ⟨[i 2,i 1,u 2],.tup [d41,i 0]⟩,
 ⟨[i 4,i 1,u 2],.tup [d42,i 0]⟩,
 ⟨[i 4,i 2,u 2],.tup [d43,i 0]⟩,
 ⟨[i 4,i 3,u 2],.tup [d44,i 0]⟩,
 ⟨[i 2,i 1,u 3],.tup [d45,i 0]⟩,
 ⟨[i 2,i 2,u 3],.tup [d46,i 0]⟩,
 ⟨[i 4,i 1,u 3],.tup [d47,i 0]⟩,
 ⟨[i 4,i 2,u 3],.tup [d48,i 0]⟩,
 ⟨[i 4,i 3,u 3],.tup [d49,i 0]⟩,
 ⟨[i 4,i 4,u 3],.tup [d50,i 0]⟩]
def TC : L:=[⟨[i 5,i 1],.tup [d52,i 0]⟩,
 ⟨[i 5,i 2],.tup [d54,i 0]⟩,
 ⟨[i 5,i 3],.tup [d56,i 0]⟩,
 ⟨[i 5,i 4],.tup [d58,i 0]⟩,
 ⟨[i 5,i 5],.tup [d60,i 0]⟩]
def TE : L:=[⟨[i 4],.tup [d106,i 0]⟩]
def TG : L:=[⟨[i 5,d105],.tup [F,i 0]⟩,
 ⟨[i 7,d106],.tup [T,i 0]⟩,
 ⟨[i 9,d107],.tup [F,i 0]⟩]
def TA : L:=[⟨[i 2,i 1],.tup [d61,i 0]⟩,
 ⟨[i 2,i 2],.tup [d62,i 0]⟩,
 ⟨[i 2,i 3],.tup [d64,i 0]⟩,
 ⟨[i 3,i 1],.tup [d65,i 0]⟩,
 ⟨[i 3,i 2],.tup [d67,i 0]⟩,
 ⟨[i 3,i 3],.tup [d69,i 0]⟩,
 ⟨[i 3,i 4],.tup [d71,i 0]⟩,
 ⟨[i 3,i 5],.tup [d73,i 0]⟩,
 ⟨[i 4,i 1],.tup [d74,i 0]⟩,
 ⟨[i 4,i 2],.tup [d76,i 0]⟩,
 ⟨[i 4,i 3],.tup [d78,i 0]⟩,
 ⟨[i 4,i 4],.tup [d80,i 0]⟩,
 ⟨[i 4,i 5],.tup [d82,i 0]⟩,
 ⟨[i 4,i 6],.tup [d84,i 0]⟩,
 ⟨[i 4,i 7],.tup [d86,i 0]⟩,
 ⟨[i 5,i 1],.tup [d88,i 0]⟩,
 ⟨[i 5,i 2],.tup [d90,i 0]⟩,
 ⟨[i 5,i 3],.tup [d92,i 0]⟩,
 ⟨[i 5,i 4],.tup [d94,i 0]⟩,
 ⟨[i 5,i 5],.tup [d96,i 0]⟩,
 ⟨[i 5,i 6],.tup [d98,i 0]⟩,
 ⟨[i 5,i 7],.tup [d100,i 0]⟩,
 ⟨[i 5,i 8],.tup [d102,i 0]⟩,
 ⟨[i 5,i 9],.tup [d104,i 0]⟩]
def p_ : L:=[v w9,
 v Km,
 v Kn,
 v Ko,
 v Kq,
 v Nj,
 v Nn,
 v No,
 v Np,
 v Vb,
 v Vc,
 v Vd,
 v Ve,
 v KH,
 v KI,
 v VG,
 v VH,
 v VI,
 v D5,
 v VJ,
 v VK,
 v VL,
 v Ks,
 v Kt,
 v Nq,
 v RP,
 v RQ,
 v RR,
 v RT,
 v Vf,
 v Vg,
 v Vh,
 v Vi,
 v VM,
 v VN,
 v VO,
 v VP,
 v wE,
 v wG,
 v wH,
 v wI,
 v wJ,
 v zT,
 v zU,
 v zV,
 v zW,
 v Cg,
 v Ch,
 v Ci,
 v D1,
 v D2,
 v D3,
 v D4,
 v G8,
 v G9,
 v G',
 v G_,
 v Ha]
def gS : L:=[⟨[i 0,i 1],F⟩,
 ⟨[i 0,i 3],F⟩,
 ⟨[i 1,i 3],F⟩,
 ⟨[i 2,i 3],F⟩,
 ⟨[i 0,i 2],F⟩,
 ⟨[i 1,i 2],F⟩,
 ⟨[i 0,i 5],F⟩,
 ⟨[i 1,i 5],F⟩,
 ⟨[i 2,i 5],F⟩,
 ⟨[i 3,i 5],F⟩,
 ⟨[i 4,i 5],F⟩,
 ⟨[i 0,i 4],F⟩,
 ⟨[i 1,i 4],F⟩,
 ⟨[i 2,i 4],F⟩,
 ⟨[i 3,i 4],F⟩]
def p9 : L:=[t d33,
 t d34,
 t d35,
 t d36,
 t d37,
 t d38,
 t d39,
 t d40,
 t d41,
 t d42,
 t d43,
 t d44,
 t d45,
 t d46,
 t d47,
 t d48,
 t d49,
 t d50,
 t d52,
 t d54,
 t d56,
 t d58,
 t d60,
 t d61,
 t d62,
 t d64,
 t d65,
 t d67,
 t d69,
 t d71,
 t d73,
 t d74,
 t d76,
 t d78,
 t d80,
 t d82,
 t d84,
 t d86,
 t d88,
 t d90,
 t d92,
 t d94,
 t d96,
 t d98,
 t d100,
 t d102,
 t d104]
def XL : L:=[q d33 1,
 q d33 2,
 q d34 1,
 q d34 2,
 q d35 1,
 q d35 2,
 q d36 1,
 q d36 2,
 q d37 1,
 q d37 2,
 q d38 1,
 q d38 2,
 q d39 1,
 q d39 2,
 q d40 1,
 q d40 2,
 q d41 1,
 q d41 2,
 q d42 1,
 q d42 2,
 q d43 1,
 q d43 2,
 q d44 1,
 q d44 2,
 q d45 1,
 q d45 2,
 q d46 1,
 q d46 2,
 q d47 1,
 q d47 2,
 q d48 1,
 q d48 2,
 q d49 1,
 q d49 2,
 q d50 1,
 q d50 2,
 q d52 1,
 q d52 2,
 q d54 1,
 q d54 2,
 q d56 1,
 q d56 2,
 q d58 1,
 q d58 2,
 q d60 1,
 q d60 2,
 q d61 1,
 q d61 2,
 q d62 1,
 q d62 2,
 q d64 1,
 q d64 2,
 q d65 1,
 q d65 2,
 q d67 1,
 q d67 2,
 q d69 1,
 q d69 2,
 q d71 1,
 q d71 2,
 q d73 1,
 q d73 2,
 q d74 1,
 q d74 2,
 q d76 1,
 q d76 2,
 q d78 1,
 q d78 2,
 q d80 1,
 q d80 2,
 q d82 1,
 q d82 2,
 q d84 1,
 q d84 2,
 q d86 1,
 q d86 2,
 q d88 1,
 q d88 2,
 q d90 1,
 q d90 2,
 q d92 1,
 q d92 2,
 q d94 1,
 q d94 2,
 q d96 1,
 q d96 2,
 q d98 1,
 q d98 2,
 q d100 1,
 q d100 2,
 q d102 1,
 q d102 2,
 q d104 1,
 q d104 2]
def k20 : L:=[⟨[.list [Cj,Kr,Hb]],.tup [.undef,d108]⟩,
 ⟨[.list [Cj,Va,Hb]],.tup [.undef,d109]⟩,
 ⟨[.list [Cj,Kr]],.tup [.undef,d110]⟩]
def Gi : L:=[⟨[.agg [u 4,u 3,u 0,u 0]],T⟩]
def LP : L:=[⟨[d111],T⟩,
 ⟨[d112],T⟩]
def k88 : L:=[⟨[.list [Cj,Kr,Hb]],d113⟩,
 ⟨[.list [Cj,Va,Hb]],d113⟩]
def LQ : L:=[⟨[.agg [i 2,i 1],i 3,i 3],.tup [.agg [i 2,i 1],i 0]⟩,
 ⟨[.agg [i 4,i 1],i 3,i 3],.tup [.agg [i 4,i 1],i 0]⟩,
 ⟨[.agg [i 0,i 1],i 3,i 3],.tup [.agg [i 0,i 1],i 0]⟩,
 ⟨[.agg [i 0,i 1],i 2,i 2],.tup [.agg [i 0,i 1],i 0]⟩,
 ⟨[.agg [i 2,i 1],i 2,i 2],.tup [.agg [i 2,i 1],i 0]⟩]
def TF : L:=[⟨[d115,i 3],d117⟩,
 ⟨[d118,i 3],d120⟩]
def TH : L:=[⟨[.list [ae7],u 0],.tup [.undef,d114]⟩]
def VB : L:=[⟨[],T⟩]
end
end ak
end Go.Proofs.YtkcfpgaepmllhaaGreatDoor
