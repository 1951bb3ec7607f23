/- Part of the proof: symbolic execution of the program, its soundness, and the closing lemmas. No condition. -/
import Derived.Test.YtkcfpgaepmllhaaGreatDoorVan
import Derived.Test.YtkcfpgaepmllhaaGreatDoorVae
namespace Go.Proofs.YtkcfpgaepmllhaaGreatDoor
open Go.RowKit
set_option maxRecDepth 100000
noncomputable section
open Go.RowKit Go.Sort
namespace Ty
variable {H : FP}
instance decEn:DecidableEq En:=fun _ _=>Classical.propDecidable _
def nb:En→List En→List En
 |_,[]=> []
 |p,b::r=>if b=p then nb b r else b::nb b r
theorem nb_cons(p b:En)(r:List En):nb p (b::r)=if b=p then nb b r else b::nb b r:=by conv=>lhs;unfold nb
def ded:List En→List En
 | []=> []
 |a::r=>a::nb a r
theorem nb_ded: ∀(a:En) (r:List En),dedE (a::r)=a::nb a r
 |a,[]=>rfl
 |a,b::r=>by
  have ih:=nb_ded b r
  unfold dedE nb
  by_cases h:a=b
  ·subst h;rw[if_pos rfl,if_pos rfl,ih]
  ·rw[if_neg h,if_neg (fun e=>h e.symm),ih]
theorem ded_eq: ∀l:List En,ded l=dedE l
 | []=>rfl
 |a::r=>(nb_ded a r).symm
theorem nb_sub: ∀(p:En) (l:List En),(nb p l).Sublist l
 |p,[]=>by simp[nb]
 |p,b::r=>by
  unfold nb
  split
  ·exact(nb_sub b r).trans (List.sublist_cons_self ..)
  ·exact(nb_sub b r).cons_cons b
theorem ded_sub: ∀l:List En,(ded l).Sublist l
 | []=>by simp[ded]
 |a::r=>(nb_sub a r).cons_cons a
section
variable {G : FP}
theorem eqcE(e x:En):eqCells [3,3,3,3,4,4,8,4,4,4,4,3,3,4,4,4,4,3,3,4,4,4,4,3,3,4,4,4,4,3,3,3,3] e.cells x.cells=some (decide (e=x)):=by
 obtain⟨rd,tb,bd,vs,kd,fl,tu,⟨l0,d0,r0,c0,t0,w0⟩,⟨l1,d1,r1,c1,t1,w1⟩,⟨l2,d2,r2,c2,t2,w2⟩,⟨l3,d3,r3,c3,t3,w3⟩,a0,a1⟩:=e
 obtain⟨rd',tb',bd',vs',kd',fl',tu',⟨l0',d0',r0',c0',t0',w0'⟩,⟨l1',d1',r1',c1',t1',w1'⟩,⟨l2',d2',r2',c2',t2',w2'⟩,⟨l3',d3',r3',c3',t3',w3'⟩,a0',a1'⟩:=x
 simp only[En.cells,En.outs,Ou.cells,List.cons_append,List.nil_append,eqC_i,eqC_u,eqC_b,eqC_nil,Oz]
 congr 1
 rw[Bool.eq_iff_iff]
 simp only[Az,decide_eq_true_eq,beq_iff_eq,En.mk.injEq,Ou.mk.injEq,and_true,and_assoc]
theorem aqE{neg:Bool}{e x:En}:XK.run G (.pk (.aeq neg [3,3,3,3,4,4,8,4,4,4,4,3,3,4,4,4,4,3,3,4,4,4,4,3,3,4,4,4,4,3,3,3,3])) [.agg e.cells, .agg x.cells]=some (bv (if neg then !decide (e=x)else decide (e=x))):=by
 rw[r_aeq,eqcE];rfl
theorem r_adn{a b:Nat}:XK.run G .adn [iv a,iv b]=some (iv ((a+b:Nat):Int)):=by
 show(if 0≤(a:Int)∧0≤(b:Int)then some (D.v (.int .i64 ((a:Int)+b)))else none)=_
 rw[if_pos ⟨by omega,by omega⟩];simp
theorem drpE{l:List En}{i:Nat}(h:i≤l.length):XK.run G .drp [.list (l.map En.cells),iv i]=some (.list ((l.drop i).map En.cells)):=by
 show(if 0≤(i:Int)∧(i:Int)≤(l.map En.cells).length then some (D.list ((l.map En.cells).drop (i:Int).toNat))else none)=_
 rw[if_pos ⟨by omega,by simp;omega⟩,List.map_drop];rfl
theorem setE{l:List En}{i:Nat}{e:En}(h:i<l.length):XK.run G (.setl 33 0 33) [.list (l.map En.cells),iv i, .agg e.cells]=some (.list ((l.set i e).map En.cells)):=by
 show(if(i:Int)<0 then none else((l.map En.cells)[(i:Int).toNat]?).bind fun c=>if e.cells.length=33∧0+33≤33∧c.length=33∧e.cells.all D.okC=true∧e.cells.all D.nfC=true then some (D.list ((l.map En.cells).set (i:Int).toNat (putAt c 0 e.cells)))else none)=_
 rw[if_neg (by omega),Int.toNat_natCast,Dz,Ez h,Pz,Oz,if_pos ⟨rfl,by omega,rfl,rfl,rfl⟩,List.map_set]
 rfl
theorem clrE{l:List En}{i:Nat}(h:i≤l.length): ∃m:List En,m.length=l.length∧m.take i=l.take i∧XK.run G (.clr [iv 0,iv 0,iv 0,iv 0,uv 0,uv 0,bv false,uv 0,uv 0,uv 0,uv 0,iv 0,iv 0,uv 0,uv 0,uv 0,uv 0,iv 0,iv 0,uv 0,uv 0,uv 0,uv 0,iv 0,iv 0,uv 0,uv 0,uv 0,uv 0,iv 0,iv 0,iv 0,iv 0]) [.list (l.map En.cells),iv i]=some (.list (m.map En.cells)):=by
 refine⟨l.take i++List.replicate (l.length-i) ⟨0,0,0,0,0,0,false,⟨0,0,0,0,0,0⟩,⟨0,0,0,0,0,0⟩,⟨0,0,0,0,0,0⟩,⟨0,0,0,0,0,0⟩,0,0⟩,by simp;omega, ?_, ?_⟩
 ·rw[List.take_append_of_le_length (by simp;omega),List.take_take];simp
 ·show(if 0≤(i:Int)∧(i:Int)≤(l.map En.cells).length then some (D.list ((l.map En.cells).take (i:Int).toNat++List.replicate ((l.map En.cells).length-(i:Int).toNat) _))else none)=_
  rw[if_pos ⟨by omega,by simp;omega⟩,List.map_append,List.map_replicate,List.map_take]
  simp
  exact .inr rfl
theorem slhE{l:List En}{i:Nat}(h:i≤l.length):XK.run G (.pk (.slc 33 false true false)) [.list (l.map En.cells),iv i]=some (.list ((l.take i).map En.cells)):=by
 have h1: ¬ ∃x,x∈l.map En.cells∧ ¬x.length=33:=fun⟨x,hx,hn⟩=>by obtain⟨e,_,rfl⟩:=List.mem_map.1 hx;exact hn rfl
 rw[List.map_take]
 generalize hL:l.map En.cells=L at h1
 have h2:i≤L.length:=by rw[←hL];simpa using h
 simp[XK.run,PK.run,slcV,intsV,boundsV,cutV,h1,h2,D.noT]
theorem slfE{l:List En}:XK.run G (.pk (.slc 33 false true true)) [.list (l.map En.cells),iv (l.length:Int),iv (l.length:Int)]=some (.list (l.map En.cells)):=by
 have h1: ¬ ∃x,x∈l.map En.cells∧ ¬x.length=33:=fun⟨x,hx,hn⟩=>by obtain⟨e,_,rfl⟩:=List.mem_map.1 hx;exact hn rfl
 generalize hL:l.map En.cells=L at h1
 have h2:l.length=L.length:=by rw[←hL];simp
 rw[h2]
 simp[XK.run,PK.run,slcV,intsV,boundsV,cutV,h1,D.noT]
end
theorem l45(hF:Fr H)(l:List En): ∃r,GK H 45 [.list (l.map En.cells)]=some r∧r.bare= .list (l.map En.cells):=by
 have hb: ∀x,(tagN x (.list (l.map En.cells))).bare= .list (l.map En.cells):=fun x=>by
  unfold tagN;split
  ·rfl
  ·split<;>rfl
 refine⟨tagN (.mk .nrm [.t 1]) (.list (l.map En.cells)),by_term hF ok45 ?_,hb _⟩
 conv=>enter [1,3];cbv
 have k:=slfE (G:=GK H) (l:=l)
 simp[k]
theorem i45(hF:Fr H)(l:List En):XK.run (GK H) (.call false 45) [.list (l.map En.cells)]=some (.list (l.map En.cells)):=by
 obtain⟨r,h1,h2⟩:=l45 hF l
 exact r_callB h1 h2 rfl
theorem e43(hH:Hd H)(l:List En)(hok: ∀e∈l,e.okB=true)(hl:l.length<65536):XK.run (GK H) (.ecall 0 43 33) [.list (l.map En.cells), .clo 44 []]=some (.tup [.tup [], .list ((sortS ltE l).map En.cells)]):=by
 have h1:GK H 1000043 [.list (l.map En.cells), .clo 44 []]=some (.tup [.tup [], .list ((sortS ltE l).map En.cells)]):=by
  rw[←sort_cells]
  refine GG_hand (hH.k43 _ ?_ (by simpa using hl))
  rw[Tz];intro x hx;obtain⟨e,he,rfl⟩:=List.mem_map.1 hx
  unfold goodE;rw[decE_cells];exact hok e he
 have hlen:=(sortS_perm ltE l).length_eq
 show(if([.list (l.map En.cells), .clo 44 []].set 0 .nil).all D.noT=true∧43<1000000 then(GK H (1000000+(1000000*0+43)) [.list (l.map En.cells), .clo 44 []]).bind _ else none)=_
 rw[if_pos ⟨rfl,by omega⟩,show 1000000+(1000000*0+43)=1000043 from rfl,h1,Oz]
 show(if D.noT (.tup [])=true∧((sortS ltE l).map En.cells).length=(l.map En.cells).length∧rowsOK 33 ((sortS ltE l).map En.cells)=true then _ else none)=_
 rw[if_pos ⟨rfl,by simp[hlen],by unfold rowsOK;rw[Tz];intro x hx;obtain⟨e,_,rfl⟩:=List.mem_map.1 hx;rfl⟩]
theorem by_at{f n:Nat}{t:FT}(ho:OKF cx f n t){ds:List D}{d:D}(h0:H f ds=none)(he:evalFT (GK H) 10000 t [] ds=some d)(hlt:f<1000000:=by decide)(hl:ds.length=n:=by rfl)(hn:ds.all D.noT=true:=by rfl):GK H f ds=some d:=GG_evalT ho h0 hlt hl hn he
theorem c15(hH:Hd H)(l:List En)(hok: ∀e∈l,e.okB=true)(hl:l.length<9999)(d:D)(hd:d.noT=true)(h0:H 15 [d]=none)
  (hs:(XK.run (GK H) (.pk (.snil false)) [d, .nil]=some (bv true)∧l= [])∨(XK.run (GK H) (.pk (.snil false)) [d, .nil]=some (bv false)∧XK.run (GK H) (.app 33) [.list [],d]=some (.list (l.map En.cells)))):
  GK H 15 [d]=some (tagN (.mk .nrm []) (.list ((ded (sortS ltE l)).map En.cells))):=by
 have htag: ∀xs (es:List (List D)),tagN (.mk .nrm xs) (.list es)=tagN (.mk .nrm []) (.list es):=fun xs es=>by cases es<;>rfl
 refine by_at ok15 h0 ?_ (hn:=by simp[hd])
 rw[tx15]
 have k2:XK.run (GK H) (.lit 33 0 [] []) []=some (.list []):=rfl
 have k4:=e43 hH l hok (by omega)
 have k5:(D.tup []).noT=true:=rfl
 have k6:=fun l=>i45 hH.fr l
 have hlen:=(sortS_perm ltE l).length_eq
 generalize hm:sortS ltE l=m at k4 hlen
 have main: ∀(L:List (List D→Option D)),True:=fun _=>trivial
 rcases hs with⟨h1,rfl⟩|⟨h1,h2⟩
 ·have hm0:m= []:=by simpa using hlen
  subst hm0
  have k6:=k6 []
  simp only[List.map_nil]at k4 k6
  simp[h1,k4,k5,k6,htag,ded]
 ·simp[h1,k2,h2,k4,k5]
  by_cases h3:(m.length:Int)<2
  ·have hdm:ded m=m:=by
    match m,h3 with
    | [],_=>rfl
    | [x],_=>rfl
    |x::y::r,h3=>simp at h3;omega
   have k6:=k6 m
   rw[hdm]
   simp[h3,k6]
   exact htag _ _
  ·rw[if_neg h3]
   refine loop_by (S:=Nat) (enc:=fun i=> [iv (i:Int)]) (res:=fun _=>tagN (.mk .nrm []) (.list ((ded m).map En.cells))) (mes:=fun i=>m.length-i) (ok:=fun i=>1≤i∧i≤m.length∧ ∃p,m[i-1]?=some p∧ded m=m.take i++nb p (m.drop i)) ?_ 1 ⟨Nat.le_refl _,by omega, ?_⟩ (by omega)
   rotate_left
   ·match m,h3 with
    | [],h3=>simp at h3
    |x::r,_=>exact⟨x,rfl,rfl⟩
   rintro rec i ⟨h4,h5,p,h6,h7⟩ ih
   obtain⟨c0,rfl⟩: ∃c0,i=c0+1:=⟨i-1,by omega⟩
   simp only[Nat.add_sub_cancel]at h6
   have lp:=(Gz.1 h6).1
   have ep:=(Gz.1 h6).2
   have w0:IntKind.i64.wrap (c0:Int)=c0:=wr (by omega) (by omega)
   have w1:IntKind.i64.wrap ((c0:Int)+1)=(c0:Int)+1:=wr (by omega) (by omega)
   have w2:IntKind.i64.wrap ((c0:Int)+1+1)=(c0:Int)+1+1:=wr (by omega) (by omega)
   cases h8:m[c0+1]? with
   |none=>
    have l8:=List.getElem?_eq_none_iff.1 h8
    have hdm:ded m=m:=by rw[h7,List.take_of_length_le l8,drop_none h8];simp[nb]
    have l8': ¬((c0:Int)+1<m.length):=by omega
    have k6:=k6 m
    rw[hdm]
    simp[l8',k6]
    exact htag _ _
   |some b=>
    have l8:=(Gz.1 h8).1
    have e8:=(Gz.1 h8).2
    have l8':(c0:Int)+1<m.length:=by omega
    have hd8:=drop_of h8
    by_cases hbp:b=p
    ·have hdr: ∃r,XK.run (GK H) .drp [.list (m.map En.cells),iv ((c0:Int)+1)]=some r:=⟨_,drpE (i:=c0+1) h5⟩
     obtain⟨dr0,hdr⟩:=hdr
     have hcut:ded m=m.take (c0+1)++nb b (m.drop (c0+2)):=by
      rw[h7,hd8,nb_cons,if_pos hbp]
     simp[l8,l8',e8,ep,lp,w0,-r_aeq,aqE,hbp,hdr]
     have h2':(2:Int)≤m.length:=by omega
     clear ih
     refine loop_by (S:=Nat×Nat×List En) (enc:=fun q=> [iv ((q.1:Int)+1),iv (q.2.1:Int), .list (q.2.2.map En.cells)]) (res:=fun _=>tagN (.mk .nrm []) (.list ((ded m).map En.cells))) (mes:=fun q=>m.length-q.1)
      (ok:=fun q=> ∃W,W.length=q.2.1∧q.2.2=W++m.drop q.2.1∧q.2.1<c0+1+q.1+1∧c0+1+q.1+1≤m.length∧ ∃x,m[c0+1+q.1]?=some x∧ded m=W++nb x (m.drop (c0+1+q.1+1))) ?_ (0,c0+1,m) ⟨m.take (c0+1),by simp;omega,by simp,by simp,by simp;omega,b,h8,hcut⟩ (by show m.length-0<_;omega)
     rintro rec2 ⟨c,kw,cur⟩ ⟨W,hW,hcur,hk,hj,x,hx,hdm⟩ ih
     replace hW:W.length=kw:=hW
     replace hcur:cur=W++m.drop kw:=hcur
     replace hk:kw<c0+1+c+1:=hk
     replace hj:c0+1+c+1≤m.length:=hj
     replace hx:m[c0+1+c]?=some x:=hx
     replace hdm:ded m=W++nb x (m.drop (c0+1+c+1)):=hdm
     have hcl:cur.length=m.length:=by rw[hcur];simp;omega
     have hat: ∀j,kw≤j→cur[j]?=m[j]?:=fun j hj=>by
      rw[hcur,Xz (by omega),List.getElem?_drop];congr 1;omega
     have hdc:=drpE (G:=GK H) (l:=cur) (i:=c0+1) (by omega)
     rw[show((c0+1:Nat):Int)=(c0:Int)+1 by omega]at hdc
     have hdl:(cur.drop (c0+1)).length=m.length-(c0+1):=by simp[hcl]
     have hda: ∀j,(cur.drop (c0+1))[j]?=cur[c0+1+j]?:=fun j=>List.getElem?_drop
     generalize cur.drop (c0+1)=dr at hdc hdl hda
     have wc0:IntKind.i64.wrap (c:Int)=c:=wr (by omega) (by omega)
     have wc2:IntKind.i64.wrap ((c:Int)+1+1)=(c:Int)+1+1:=wr (by omega) (by omega)
     have wk:IntKind.i64.wrap ((kw:Int)+1)=(kw:Int)+1:=wr (by omega) (by omega)
     cases hy:m[c0+1+c+1]? with
     |none=>
      have l9:=List.getElem?_eq_none_iff.1 hy
      have hW2:ded m=W:=by rw[hdm,drop_none hy];simp[nb]
      have l9': ¬((c:Int)+1<dr.length):=by omega
      have hkl:kw≤cur.length:=by omega
      obtain⟨m2,hm2,ht2,hc2⟩:=clrE (G:=GK H) (l:=cur) (i:=kw) hkl
      have hdk:=drpE (G:=GK H) (l:=cur) (i:=kw) hkl
      have hd2: ∃r,XK.run (GK H) .drp [.list (m2.map En.cells),iv ((c0:Int)+1)]=some r:=⟨_,drpE (i:=c0+1) (by omega)⟩
      obtain⟨r2,hd2⟩:=hd2
      have hs2:=slhE (G:=GK H) (l:=m2) (i:=kw) (by omega)
      have hW3:m2.take kw=W:=by rw[ht2,hcur,List.take_append_of_le_length (by omega),List.take_of_length_le (by omega)]
      rw[hW3]at hs2
      have k6:=k6 W
      rw[hW2]
      generalize cur.drop kw=ck at hdk
      simp[hdc,l9',hdk,hc2,hs2,hd2,k6]
      first|done|exact htag _ _
     |some y=>
      have l9:=(Gz.1 hy).1
      have l9':(c:Int)+1<dr.length:=by omega
      have hA1:XK.run (GK H) .adn [iv ((c0:Int)+1),iv ((c:Int)+1)]=some (iv (((c0+1+c:Nat):Int)+1)):=by
       have:=r_adn (G:=GK H) (a:=c0+1) (b:=c+1)
       rw[show((c0+1:Nat):Int)=(c0:Int)+1 by omega,show((c+1:Nat):Int)=(c:Int)+1 by omega]at this
       rw[this];congr 3
      have hA0:XK.run (GK H) .adn [iv ((c0:Int)+1),iv (c:Int)]=some (iv ((c0+1+c:Nat):Int)):=by
       have:=r_adn (G:=GK H) (a:=c0+1) (b:=c)
       rw[show((c0+1:Nat):Int)=(c0:Int)+1 by omega]at this
       exact this
      have hc1:=hat (c0+1+c) (by omega)
      have hc2:=hat (c0+1+c+1) (by omega)
      have hd1:=hda c
      have hd2:=hda (c+1)
      rw[hc1,hx]at hd1
      rw[show c0+1+(c+1)=c0+1+c+1 by omega,hc2,hy]at hd2
      rw[hx]at hc1
      rw[hy]at hc2
      have hdy:=drop_of hy
      have hset:=setE (G:=GK H) (l:=cur) (i:=kw) (e:=y) (by omega)
      have hset2:cur.set kw y=(W++ [y])++m.drop (kw+1):=by
       have hkm:m.drop kw=m[kw]::m.drop (kw+1):=List.drop_eq_getElem_cons (by omega)
       rw[hcur,hkm,List.set_append_right _ _ (by omega),hW,Nat.sub_self,List.set_cons_zero];simp
      generalize hq:c0+1+c=q at hA1 hA0 hc1 hc2 hdm hx hy hdy hj hk l9 ih
      have x1:=(Gz.1 hc1).1
      have x2:=(Gz.1 hc1).2
      have y1:=(Gz.1 hc2).1
      have y2:=(Gz.1 hc2).2
      have u1:=(Gz.1 hd1).1
      have v1:=(Gz.1 hd2).1
      have kwl:kw<cur.length:=by omega
      by_cases hyx:y=x
      ·have ih:=ih (c+1,kw,cur) ⟨W,hW,hcur,by show kw<c0+1+(c+1)+1;omega,by show c0+1+(c+1)+1≤m.length;omega,y,by rw[←hy];congr 1;show c0+1+(c+1)=_;omega,by
        show ded m=W++nb y (m.drop (c0+1+(c+1)+1));rw[hdm,hdy,nb_cons,if_pos hyx,show c0+1+(c+1)+1=q+1+1 by omega]⟩ (by show m.length-(c+1)<m.length-c;omega)
       simp[hdc,l9',hA1,hA0,x1,x2,y1,y2,u1,v1,wc0,wc2,-r_aeq,aqE,hyx]
       simpa using ih
      ·have ih:=ih (c+1,kw+1,cur.set kw y) ⟨W++ [y],by simp[hW],hset2,by show kw+1<c0+1+(c+1)+1;omega,by show c0+1+(c+1)+1≤m.length;omega,y,by rw[←hy];congr 1;show c0+1+(c+1)=_;omega,by
        show ded m=(W++ [y])++nb y (m.drop (c0+1+(c+1)+1));rw[hdm,hdy,nb_cons,if_neg hyx,show c0+1+(c+1)+1=q+1+1 by omega];simp⟩ (by show m.length-(c+1)<m.length-c;omega)
       simp[hdc,l9',hA1,hA0,x1,x2,y1,y2,u1,v1,wc0,wc2,wk,kwl,-r_aeq,aqE,hyx,hset]
       simpa using ih
    ·have hnx:ded m=m.take (c0+2)++nb b (m.drop (c0+2)):=by
      rw[h7,hd8,nb_cons,if_neg hbp,List.take_add_one (i:=c0+1),h8];simp
     have ih:=ih (c0+2) ⟨by omega,by omega,b,h8,hnx⟩ (by omega)
     simp[l8,l8',e8,ep,lp,w0,w2,-r_aeq,aqE,hbp]
     rw[show(((c0+2:Nat)):Int)=(c0:Int)+1+1 by omega]at ih
     exact ih
theorem bare_tagL(l:List En):(tagN (.mk .nrm []) (.list (l.map En.cells))).bare= .list (l.map En.cells):=by
 unfold tagN;split
 ·rfl
 ·split<;>rfl
theorem g15(hH:Hd H)(l:List En)(hok: ∀e∈l,e.okB=true)(hl:l.length<9999)(h0:l≠ []):GK H 15 [.list (l.map En.cells)]=some (tagN (.mk .nrm []) (.list ((ded (sortS ltE l)).map En.cells))):=by
 refine c15 hH l hok hl _ rfl ?_ (.inr ⟨?_, ?_⟩)
 ·cases l with
  |nil=>exact absurd rfl h0
  |cons a r=>exact hH.n15 _ _
 ·cases l with
  |nil=>exact absurd rfl h0
  |cons a r=>rfl
 ·show(if rowsOK 33 (l.map En.cells)=true∧0+(l.map En.cells).length≤maxMade then some (D.list ([]++l.map En.cells))else none)=_
  rw[if_pos ⟨by unfold rowsOK;rw[Tz];intro x hx;obtain⟨e,_,rfl⟩:=List.mem_map.1 hx;rfl,by simp[maxMade];omega⟩];rfl
end Ty
end
section
namespace Ty
variable {H : FP}
theorem u8_rng{z:Int}(h:u8 z=true):0≤z∧z<256:=by simpa[u8]using h
theorem u8_of{z:Int}(h1:0≤z)(h2:z<256):u8 z=true:=by simp[u8,h1,h2]
theorem wu8{z:Int}(h1:0≤z)(h2:z<256):IntKind.u8.wrap z=z:=wrap_in .u8 z (by show-(0:Int)≤z;omega) h2
theorem wu8m(z:Int):IntKind.u8.wrap z=z%256:=by
 simp only[IntKind.wrap,IntKind.bits,IntKind.signed,Bool.false_and,Bool.false_eq_true,if_false]
 first|rfl|(simp;done)|(simp;omega)
theorem tm{a b:Int}(h:0≤a):a.tmod b=a%b:=Int.tmod_eq_emod_of_nonneg h
theorem td{a b:Int}(h:0≤a):a.tdiv b=a/b:=Int.tdiv_eq_ediv_of_nonneg h
def oc(b t:Int):Ou:=if b%211=210 then⟨0,0,0,0,0,0⟩else⟨1+b%211/30,b%211/6%5,b%211%3,(b+t)%4,t%14,0⟩
theorem oc_ok(b t:Int)(hb:u8 b=true):(oc b t).okB=true:=by
 obtain⟨h1,h2⟩:=u8_rng hb
 unfold oc
 split
 ·rfl
 ·simp only[Ou.okB,Az]
  exact⟨⟨⟨u8_of (by omega) (by omega),u8_of (by omega) (by omega)⟩,u8_of (by omega) (by omega)⟩,u8_of (by omega) (by omega)⟩
theorem l79(hF:Fr H)(b t:Int)(hb:u8 b=true)(ht:u8 t=true):GK H 79 [uv b,uv t]=some (.agg (oc b t).cells):=by
 obtain⟨b1,b2⟩:=u8_rng hb
 obtain⟨t1,t2⟩:=u8_rng ht
 refine by_term hF ok79 ?_
 rw[tx79]
 have e1:(IntKind.i64.wrap b).tmod 211=b%211:=by rw[wr (by omega) (by omega),tm (by omega)]
 have e2:IntKind.u8.wrap (IntKind.i64.wrap (1+IntKind.i64.wrap ((b%211).tdiv 30)))=1+b%211/30:=by
  rw[td (by omega),wr (z:=b%211/30) (by omega) (by omega),wr (by omega) (by omega),wu8 (by omega) (by omega)]
 have e3:IntKind.u8.wrap ((IntKind.i64.wrap ((b%211).tdiv 6)).tmod 5)=b%211/6%5:=by
  rw[td (by omega),wr (z:=b%211/6) (by omega) (by omega),tm (by omega),wu8 (by omega) (by omega)]
 have e4:IntKind.u8.wrap ((b%211).tmod 3)=b%211%3:=by rw[tm (by omega),wu8 (by omega) (by omega)]
 have e5:(IntKind.u8.wrap (b+t)).tmod 4=(b+t)%4:=by rw[wu8m,tm (by omega)];omega
 have e6:(IntKind.i64.wrap t).tmod 14=t%14:=by rw[wr (by omega) (by omega),tm (by omega)]
 unfold oc
 by_cases h:b%211=210
 ·simp[e1,h];rfl
 ·simp[e1,h]
  rw[e2,e3,e4,e5,e6];rfl
structure Sm where
 k:Int
 f:Int
 a:Int
 b0:Int
 b1:Int
 b2:Int
 b3:Int
 t0:Int
 t1:Int
 t2:Int
 t3:Int
 w0:Int
 w1:Int
 w2:Int
def Sm.cells(x:Sm):List D:= [uv x.k,uv x.f,uv x.a,uv x.b0,uv x.b1,uv x.b2,uv x.b3,uv x.t0,uv x.t1,uv x.t2,uv x.t3,uv x.w0,uv x.w1,uv x.w2]
def Sm.ok(x:Sm):Bool:=u8 x.k&&u8 x.f&&u8 x.a&&u8 x.b0&&u8 x.b1&&u8 x.b2&&u8 x.b3&&u8 x.t0&&u8 x.t1&&u8 x.t2&&u8 x.t3&&u8 x.w0&&u8 x.w1&&u8 x.w2
def zO:Ou:=⟨0,0,0,0,0,0⟩
def Ou.wgt(o:Ou)(w:Int):Ou:={o with wt:=w}
def aws(i:Int):Int:=if i=0 then 0 else if i=1 then 30 else if i=2 then 40 else if i=3 then 50 else if i=4 then 60 else if i=5 then 70 else 100
def Sm.en(x:Sm):En:=
  let z:En:=⟨0,0,0,0,x.k%5,x.f%4,false,zO,zO,zO,zO,0,0⟩
  let p0:=oc x.b0 x.t0;let p1:=oc x.b1 x.t1;let p2:=oc x.b2 x.t2;let p3:=oc x.b3 x.t3
  if x.k%5=1 then{z with o0:=p0}
  else if x.k%5=3 then{z with o0:=p0,o1:=p1}
  else if x.k%5=2 then
    (let n:=2+x.w0%3
     let w0:=1+x.w0%(100-(n-1))
     let r0:=100-w0
     if n=2 then{z with o0:=p0.wgt w0,o1:=p1.wgt r0}
     else
       (let w1:=1+x.w1%(r0-(n-2))
        let r1:=r0-w1
        if n=3 then{z with o0:=p0.wgt w0,o1:=p1.wgt w1,o2:=p2.wgt r1}
        else
          (let w2:=1+x.w2%(r1-1)
           {z with o0:=p0.wgt w0,o1:=p1.wgt w1,o2:=p2.wgt w2,o3:=p3.wgt (r1-w2)})))
  else if x.k%5=4 then{z with a0:=aws (x.a%7),a1:=aws (x.a/7%7)}
  else z
section
variable {G : FP} {x : Sm}
@[simp] theorem Sm.c0:XK.run G (.cell 0 14) [.agg x.cells]=some (uv x.k):=nr rfl
@[simp] theorem Sm.c1:XK.run G (.cell 1 14) [.agg x.cells]=some (uv x.f):=nr rfl
@[simp] theorem Sm.c2:XK.run G (.cell 2 14) [.agg x.cells]=some (uv x.a):=nr rfl
@[simp] theorem Sm.c3:XK.run G (.cell 3 14) [.agg x.cells]=some (uv x.b0):=nr rfl
@[simp] theorem Sm.c4:XK.run G (.cell 4 14) [.agg x.cells]=some (uv x.b1):=nr rfl
@[simp] theorem Sm.c5:XK.run G (.cell 5 14) [.agg x.cells]=some (uv x.b2):=nr rfl
@[simp] theorem Sm.c6:XK.run G (.cell 6 14) [.agg x.cells]=some (uv x.b3):=nr rfl
@[simp] theorem Sm.c7:XK.run G (.cell 7 14) [.agg x.cells]=some (uv x.t0):=nr rfl
@[simp] theorem Sm.c8:XK.run G (.cell 8 14) [.agg x.cells]=some (uv x.t1):=nr rfl
@[simp] theorem Sm.c9:XK.run G (.cell 9 14) [.agg x.cells]=some (uv x.t2):=nr rfl
@[simp] theorem Sm.c10:XK.run G (.cell 10 14) [.agg x.cells]=some (uv x.t3):=nr rfl
@[simp] theorem Sm.c11:XK.run G (.cell 11 14) [.agg x.cells]=some (uv x.w0):=nr rfl
@[simp] theorem Sm.c12:XK.run G (.cell 12 14) [.agg x.cells]=some (uv x.w1):=nr rfl
@[simp] theorem Sm.c13:XK.run G (.cell 13 14) [.agg x.cells]=some (uv x.w2):=nr rfl
end
section
variable {G : FP} {E : List D} {p : Ou} {w : Int} {x0 x1 x2 x3 x4 x5 x6 x7 x8 x9 x10 x11 x12 x13 x14 x15 x16 x17 x18 x19 x20 x21 x22 x23 : Value}
@[simp] theorem cs24{v:Nat}:X.evs G E (cs v 24 0 24)=ob (E[v]?) (csV 24):=cs_v (by omega)
@[simp] theorem csV24:csV 24 (.agg [.v x0, .v x1, .v x2, .v x3, .v x4, .v x5, .v x6, .v x7, .v x8, .v x9, .v x10, .v x11, .v x12, .v x13, .v x14, .v x15, .v x16, .v x17, .v x18, .v x19, .v x20, .v x21, .v x22, .v x23])=some [.v x0, .v x1, .v x2, .v x3, .v x4, .v x5, .v x6, .v x7, .v x8, .v x9, .v x10, .v x11, .v x12, .v x13, .v x14, .v x15, .v x16, .v x17, .v x18, .v x19, .v x20, .v x21, .v x22, .v x23]:=nr rfl
@[simp] theorem so0:XK.run G (.seta 4 6 0 6) [.agg [.v x0, .v x1, .v x2, .v x3, .v x4, .v x5, .v x6, .v x7, .v x8, .v x9, .v x10, .v x11, .v x12, .v x13, .v x14, .v x15, .v x16, .v x17, .v x18, .v x19, .v x20, .v x21, .v x22, .v x23],iv 0, .agg p.cells]=some (.agg [uv p.lv,uv p.dn,uv p.rk,uv p.dc,iv p.tr,iv p.wt, .v x6, .v x7, .v x8, .v x9, .v x10, .v x11, .v x12, .v x13, .v x14, .v x15, .v x16, .v x17, .v x18, .v x19, .v x20, .v x21, .v x22, .v x23]):=nr rfl
@[simp] theorem so1:XK.run G (.seta 4 6 0 6) [.agg [.v x0, .v x1, .v x2, .v x3, .v x4, .v x5, .v x6, .v x7, .v x8, .v x9, .v x10, .v x11, .v x12, .v x13, .v x14, .v x15, .v x16, .v x17, .v x18, .v x19, .v x20, .v x21, .v x22, .v x23],iv 1, .agg p.cells]=some (.agg [.v x0, .v x1, .v x2, .v x3, .v x4, .v x5,uv p.lv,uv p.dn,uv p.rk,uv p.dc,iv p.tr,iv p.wt, .v x12, .v x13, .v x14, .v x15, .v x16, .v x17, .v x18, .v x19, .v x20, .v x21, .v x22, .v x23]):=nr rfl
@[simp] theorem so2:XK.run G (.seta 4 6 0 6) [.agg [.v x0, .v x1, .v x2, .v x3, .v x4, .v x5, .v x6, .v x7, .v x8, .v x9, .v x10, .v x11, .v x12, .v x13, .v x14, .v x15, .v x16, .v x17, .v x18, .v x19, .v x20, .v x21, .v x22, .v x23],iv 2, .agg p.cells]=some (.agg [.v x0, .v x1, .v x2, .v x3, .v x4, .v x5, .v x6, .v x7, .v x8, .v x9, .v x10, .v x11,uv p.lv,uv p.dn,uv p.rk,uv p.dc,iv p.tr,iv p.wt, .v x18, .v x19, .v x20, .v x21, .v x22, .v x23]):=nr rfl
@[simp] theorem so3:XK.run G (.seta 4 6 0 6) [.agg [.v x0, .v x1, .v x2, .v x3, .v x4, .v x5, .v x6, .v x7, .v x8, .v x9, .v x10, .v x11, .v x12, .v x13, .v x14, .v x15, .v x16, .v x17, .v x18, .v x19, .v x20, .v x21, .v x22, .v x23],iv 3, .agg p.cells]=some (.agg [.v x0, .v x1, .v x2, .v x3, .v x4, .v x5, .v x6, .v x7, .v x8, .v x9, .v x10, .v x11, .v x12, .v x13, .v x14, .v x15, .v x16, .v x17,uv p.lv,uv p.dn,uv p.rk,uv p.dc,iv p.tr,iv p.wt]):=nr rfl
@[simp] theorem sw0:XK.run G (.seta 4 6 5 1) [.agg [.v x0, .v x1, .v x2, .v x3, .v x4, .v x5, .v x6, .v x7, .v x8, .v x9, .v x10, .v x11, .v x12, .v x13, .v x14, .v x15, .v x16, .v x17, .v x18, .v x19, .v x20, .v x21, .v x22, .v x23],iv 0,iv w]=some (.agg [.v x0, .v x1, .v x2, .v x3, .v x4,iv w, .v x6, .v x7, .v x8, .v x9, .v x10, .v x11, .v x12, .v x13, .v x14, .v x15, .v x16, .v x17, .v x18, .v x19, .v x20, .v x21, .v x22, .v x23]):=nr rfl
@[simp] theorem sw1:XK.run G (.seta 4 6 5 1) [.agg [.v x0, .v x1, .v x2, .v x3, .v x4, .v x5, .v x6, .v x7, .v x8, .v x9, .v x10, .v x11, .v x12, .v x13, .v x14, .v x15, .v x16, .v x17, .v x18, .v x19, .v x20, .v x21, .v x22, .v x23],iv 1,iv w]=some (.agg [.v x0, .v x1, .v x2, .v x3, .v x4, .v x5, .v x6, .v x7, .v x8, .v x9, .v x10,iv w, .v x12, .v x13, .v x14, .v x15, .v x16, .v x17, .v x18, .v x19, .v x20, .v x21, .v x22, .v x23]):=nr rfl
@[simp] theorem sw2:XK.run G (.seta 4 6 5 1) [.agg [.v x0, .v x1, .v x2, .v x3, .v x4, .v x5, .v x6, .v x7, .v x8, .v x9, .v x10, .v x11, .v x12, .v x13, .v x14, .v x15, .v x16, .v x17, .v x18, .v x19, .v x20, .v x21, .v x22, .v x23],iv 2,iv w]=some (.agg [.v x0, .v x1, .v x2, .v x3, .v x4, .v x5, .v x6, .v x7, .v x8, .v x9, .v x10, .v x11, .v x12, .v x13, .v x14, .v x15, .v x16,iv w, .v x18, .v x19, .v x20, .v x21, .v x22, .v x23]):=nr rfl
@[simp] theorem sw3:XK.run G (.seta 4 6 5 1) [.agg [.v x0, .v x1, .v x2, .v x3, .v x4, .v x5, .v x6, .v x7, .v x8, .v x9, .v x10, .v x11, .v x12, .v x13, .v x14, .v x15, .v x16, .v x17, .v x18, .v x19, .v x20, .v x21, .v x22, .v x23],iv 3,iv w]=some (.agg [.v x0, .v x1, .v x2, .v x3, .v x4, .v x5, .v x6, .v x7, .v x8, .v x9, .v x10, .v x11, .v x12, .v x13, .v x14, .v x15, .v x16, .v x17, .v x18, .v x19, .v x20, .v x21, .v x22,iv w]):=nr rfl
@[simp] theorem ga0:XK.run G (.geta 4 1 0 1 false) [.agg [.v x0, .v x1, .v x2, .v x3],iv 0]=some (.v x0):=nr rfl
@[simp] theorem rn0:XK.run G (.rngi 4) [iv 0]=some (.tup []):=nr rfl
@[simp] theorem rm0:XK.run G (.rngi 3) [iv 0]=some (.tup []):=nr rfl
@[simp] theorem gb0:XK.run G (.geta 3 1 0 1 false) [.agg [.v x0, .v x1, .v x2],iv 0]=some (.v x0):=nr rfl
@[simp] theorem ga1:XK.run G (.geta 4 1 0 1 false) [.agg [.v x0, .v x1, .v x2, .v x3],iv 1]=some (.v x1):=nr rfl
@[simp] theorem rn1:XK.run G (.rngi 4) [iv 1]=some (.tup []):=nr rfl
@[simp] theorem rm1:XK.run G (.rngi 3) [iv 1]=some (.tup []):=nr rfl
@[simp] theorem gb1:XK.run G (.geta 3 1 0 1 false) [.agg [.v x0, .v x1, .v x2],iv 1]=some (.v x1):=nr rfl
@[simp] theorem ga2:XK.run G (.geta 4 1 0 1 false) [.agg [.v x0, .v x1, .v x2, .v x3],iv 2]=some (.v x2):=nr rfl
@[simp] theorem rn2:XK.run G (.rngi 4) [iv 2]=some (.tup []):=nr rfl
@[simp] theorem rm2:XK.run G (.rngi 3) [iv 2]=some (.tup []):=nr rfl
@[simp] theorem gb2:XK.run G (.geta 3 1 0 1 false) [.agg [.v x0, .v x1, .v x2],iv 2]=some (.v x2):=nr rfl
@[simp] theorem ga3:XK.run G (.geta 4 1 0 1 false) [.agg [.v x0, .v x1, .v x2, .v x3],iv 3]=some (.v x3):=nr rfl
@[simp] theorem rn3:XK.run G (.rngi 4) [iv 3]=some (.tup []):=nr rfl
end
def awL:D:= .list [[iv 0],[iv 30],[iv 40],[iv 50],[iv 60],[iv 70],[iv 100]]
theorem awL_at{G:FP}{i:Int}(h1:0≤i)(h2:i<7):XK.run G (.pk (.idx 0 1)) [awL,iv i]=some (.lptr [iv (aws i)]):=by
 have:i=0∨i=1∨i=2∨i=3∨i=4∨i=5∨i=6:=by omega
 rcases this with rfl|rfl|rfl|rfl|rfl|rfl|rfl<;>rfl
set_option maxHeartbeats 2000000 in
theorem l41(hF:Fr H)(x:Sm)(hx:x.ok=true):GK H 41 [.agg x.cells]=some (.agg x.en.cells):=by
 simp only[Sm.ok,Az]at hx
 obtain⟨⟨⟨⟨⟨⟨⟨⟨⟨⟨⟨⟨⟨gk,gf⟩,ga⟩,g0⟩,g1⟩,g2⟩,g3⟩,q0⟩,q1⟩,q2⟩,q3⟩,v0⟩,v1⟩,v2⟩:=hx
 have k79: ∀b t,u8 b=true→u8 t=true→XK.run (GK H) (.call false 79) [uv b,uv t]=some (.agg (oc b t).cells):=fun b t h1 h2=>r_call (l79 hF b t h1 h2) rfl rfl
 have m0:=k79 _ _ g0 q0
 have m1:=k79 _ _ g1 q1
 have m2:=k79 _ _ g2 q2
 have m3:=k79 _ _ g3 q3
 have hk:=u8_rng gk
 have hf:=u8_rng gf
 have ek:x.k.tmod 5=x.k%5:=tm hk.1
 have ef:x.f.tmod 4=x.f%4:=tm hf.1
 refine by_term hF ok41 ?_
 rw[tx41]
 unfold Sm.en
 by_cases c1:x.k%5=1
 ·simp[ek,ef,c1,m0]
  rfl
 ·by_cases c3:x.k%5=3
  ·simp[ek,ef,c3,m0,m1]
   rfl
  ·by_cases c2:x.k%5=2
   ·have hw0:=u8_rng v0
    have hw1:=u8_rng v1
    have hw2:=u8_rng v2
    have e0:(IntKind.i64.wrap x.w0).tmod 3=x.w0%3:=by rw[wr (by omega) (by omega),tm (by omega)]
    have hr:x.w0%3=0∨x.w0%3=1∨x.w0%3=2:=by omega
    rcases hr with hr|hr|hr
    ·have ea:IntKind.i64.wrap (1+(IntKind.i64.wrap x.w0).tmod 99)=1+x.w0%99:=by rw[wr (z:=x.w0) (by omega) (by omega),tm (by omega),wr (by omega) (by omega)]
     have eb:IntKind.i64.wrap (100-(1+x.w0%99))=100-(1+x.w0%99):=wr (by omega) (by omega)
     have h99:IntKind.i64.wrap 99=99:=rfl
     simp[ek,ef,c2,e0,hr]
     rw[lp0]
     simp[m0,ea,eb,h99]
     rw[lp1]
     simp[m1]
     rw[lp2]
     simp
     rfl
    ·have ea:IntKind.i64.wrap (1+(IntKind.i64.wrap x.w0).tmod 98)=1+x.w0%98:=by rw[wr (z:=x.w0) (by omega) (by omega),tm (by omega),wr (by omega) (by omega)]
     have eb:IntKind.i64.wrap (100-(1+x.w0%98))=100-(1+x.w0%98):=wr (by omega) (by omega)
     have h98:IntKind.i64.wrap 98=98:=rfl
     have b1:1≤1+x.w0%98∧1+x.w0%98≤98:=by omega
     simp[ek,ef,c2,e0,hr]
     rw[lp0]
     simp[m0,ea,eb,h98]
     generalize 1+x.w0%98=W0 at b1
     have ec:IntKind.i64.wrap (100-W0-1)=100-W0-1:=wr (by omega) (by omega)
     have hne: ¬100-W0-1=0:=by omega
     have ed:IntKind.i64.wrap (1+(IntKind.i64.wrap x.w1).tmod (100-W0-1))=1+x.w1%(100-W0-1):=by
      have:=Int.emod_nonneg x.w1 (b:=100-W0-1) (by omega)
      have:=Int.emod_lt_of_pos x.w1 (b:=100-W0-1) (by omega)
      rw[wr (z:=x.w1) (by omega) (by omega),tm (by omega),wr (by omega) (by omega)]
     rw[lp1]
     simp[m1,ec,hne,ed]
     have b2:1≤1+x.w1%(100-W0-1)∧1+x.w1%(100-W0-1)≤100-W0-1:=by
      have:=Int.emod_nonneg x.w1 (b:=100-W0-1) (by omega)
      have:=Int.emod_lt_of_pos x.w1 (b:=100-W0-1) (by omega)
      omega
     generalize 1+x.w1%(100-W0-1)=W1 at b2
     have ef2:IntKind.i64.wrap (100-W0-W1)=100-W0-W1:=wr (by omega) (by omega)
     have eg:IntKind.i64.wrap (100-W0-W1-(100-W0-W1))=0:=by rw[Int.sub_self];rfl
     rw[lp2]
     simp[m2,ef2]
     rw[lp3]
     simp
     rfl
    ·have ea:IntKind.i64.wrap (1+(IntKind.i64.wrap x.w0).tmod 97)=1+x.w0%97:=by rw[wr (z:=x.w0) (by omega) (by omega),tm (by omega),wr (by omega) (by omega)]
     have eb:IntKind.i64.wrap (100-(1+x.w0%97))=100-(1+x.w0%97):=wr (by omega) (by omega)
     have h97:IntKind.i64.wrap 97=97:=rfl
     have b1:1≤1+x.w0%97∧1+x.w0%97≤97:=by omega
     simp[ek,ef,c2,e0,hr]
     rw[lp0]
     simp[m0,ea,eb,h97]
     generalize 1+x.w0%97=W0 at b1
     have ec:IntKind.i64.wrap (100-W0-2)=100-W0-2:=wr (by omega) (by omega)
     have hne: ¬100-W0-2=0:=by omega
     have ed:IntKind.i64.wrap (1+(IntKind.i64.wrap x.w1).tmod (100-W0-2))=1+x.w1%(100-W0-2):=by
      have:=Int.emod_nonneg x.w1 (b:=100-W0-2) (by omega)
      have:=Int.emod_lt_of_pos x.w1 (b:=100-W0-2) (by omega)
      rw[wr (z:=x.w1) (by omega) (by omega),tm (by omega),wr (by omega) (by omega)]
     have b2:1≤1+x.w1%(100-W0-2)∧1+x.w1%(100-W0-2)≤100-W0-2:=by
      have:=Int.emod_nonneg x.w1 (b:=100-W0-2) (by omega)
      have:=Int.emod_lt_of_pos x.w1 (b:=100-W0-2) (by omega)
      omega
     rw[lp1]
     simp[m1,ec,hne,ed]
     generalize 1+x.w1%(100-W0-2)=W1 at b2
     have ef2:IntKind.i64.wrap (100-W0-W1)=100-W0-W1:=wr (by omega) (by omega)
     have ec2:IntKind.i64.wrap (100-W0-W1-1)=100-W0-W1-1:=wr (by omega) (by omega)
     have hne2: ¬100-W0-W1-1=0:=by omega
     have ed2:IntKind.i64.wrap (1+(IntKind.i64.wrap x.w2).tmod (100-W0-W1-1))=1+x.w2%(100-W0-W1-1):=by
      have:=Int.emod_nonneg x.w2 (b:=100-W0-W1-1) (by omega)
      have:=Int.emod_lt_of_pos x.w2 (b:=100-W0-W1-1) (by omega)
      rw[wr (z:=x.w2) (by omega) (by omega),tm (by omega),wr (by omega) (by omega)]
     have b3:1≤1+x.w2%(100-W0-W1-1)∧1+x.w2%(100-W0-W1-1)≤100-W0-W1-1:=by
      have:=Int.emod_nonneg x.w2 (b:=100-W0-W1-1) (by omega)
      have:=Int.emod_lt_of_pos x.w2 (b:=100-W0-W1-1) (by omega)
      omega
     rw[lp2]
     simp[m2,ef2,ec2,hne2,ed2]
     generalize 1+x.w2%(100-W0-W1-1)=W2 at b3
     have ef3:IntKind.i64.wrap (100-W0-W1-W2)=100-W0-W1-W2:=wr (by omega) (by omega)
     rw[lp3]
     simp[m3,ef3]
     rw[lp4]
     simp
     rfl
   ·by_cases c4:x.k%5=4
    ·have hga:=u8_rng ga
     have e7:(IntKind.i64.wrap x.a).tmod 7=x.a%7:=by rw[wr (by omega) (by omega),tm (by omega)]
     have e8:(IntKind.i64.wrap ((IntKind.i64.wrap x.a).tdiv 7)).tmod 7=x.a/7%7:=by rw[wr (z:=x.a) (by omega) (by omega),td (by omega),wr (by omega) (by omega),tm (by omega)]
     have kl:XK.run (GK H) (.lit 1 7 [iv 0,iv 0,iv 0,iv 0,iv 0,iv 0,iv 0] [(0,1),(1,1),(2,1),(3,1),(4,1),(5,1),(6,1)]) [iv 0,iv 30,iv 40,iv 50,iv 60,iv 70,iv 100]=some awL:=rfl
     have ka:=awL_at (G:=GK H) (i:=x.a%7) (by omega) (by omega)
     have kb:=awL_at (G:=GK H) (i:=x.a/7%7) (by omega) (by omega)
     have kc: ∀z,XK.run (GK H) (.cell 0 1) [iv z]=some (iv z):=fun z=>rfl
     simp[ek,ef,c4,e7,e8,kl,ka,kb,kc]
     rfl
    ·simp[ek,ef,c1,c3,c2,c4]
     rfl
end Ty
end
section
namespace Ty
variable {H : FP}
structure It where
 at':Int
 vs:Int
 tu:Bool
 x:Sm
abbrev u16v(z:Int):D:= .v (.int .u16 z)
def It.cells(i:It):List D:=u16v i.at'::uv i.vs::bv i.tu::i.x.cells
def It.ok(i:It):Bool:=decide (0≤i.at')&&decide (i.at'<65536)&&u8 i.vs&&i.x.ok
def It.en(i:It)(k:Ky):En:=
 let e:=i.x.en
 {e with rd:=k.rd,tb:=k.tb,bd:=k.bd,vs:=1+i.vs%9,fl:=if e.kd=0∨e.kd=4 then 0 else e.fl,tu:=if e.kd=0∨e.kd=4 then e.tu else i.tu}
def entsOf(ks:List Ky)(l:List It):List En:=(l.take 40).filterMap fun i=>(ks[(i.at'%(ks.length:Int)).toNat]?).map i.en
section
variable {G : FP} {i : It}
@[simp] theorem It.c0:XK.run G (.cell 0 17) [.agg i.cells]=some (u16v i.at'):=nr rfl
@[simp] theorem It.c1:XK.run G (.cell 1 17) [.agg i.cells]=some (uv i.vs):=nr rfl
@[simp] theorem It.c2:XK.run G (.cell 2 17) [.agg i.cells]=some (bv i.tu):=nr rfl
@[simp] theorem It.c3:XK.run G (.cell 3 17) [.agg i.cells]=some (uv i.x.k):=nr rfl
@[simp] theorem It.c4:XK.run G (.cell 4 17) [.agg i.cells]=some (uv i.x.f):=nr rfl
@[simp] theorem It.c5:XK.run G (.cell 5 17) [.agg i.cells]=some (uv i.x.a):=nr rfl
@[simp] theorem It.c6:XK.run G (.cell 6 17) [.agg i.cells]=some (uv i.x.b0):=nr rfl
@[simp] theorem It.c7:XK.run G (.cell 7 17) [.agg i.cells]=some (uv i.x.b1):=nr rfl
@[simp] theorem It.c8:XK.run G (.cell 8 17) [.agg i.cells]=some (uv i.x.b2):=nr rfl
@[simp] theorem It.c9:XK.run G (.cell 9 17) [.agg i.cells]=some (uv i.x.b3):=nr rfl
@[simp] theorem It.c10:XK.run G (.cell 10 17) [.agg i.cells]=some (uv i.x.t0):=nr rfl
@[simp] theorem It.c11:XK.run G (.cell 11 17) [.agg i.cells]=some (uv i.x.t1):=nr rfl
@[simp] theorem It.c12:XK.run G (.cell 12 17) [.agg i.cells]=some (uv i.x.t2):=nr rfl
@[simp] theorem It.c13:XK.run G (.cell 13 17) [.agg i.cells]=some (uv i.x.t3):=nr rfl
@[simp] theorem It.c14:XK.run G (.cell 14 17) [.agg i.cells]=some (uv i.x.w0):=nr rfl
@[simp] theorem It.c15:XK.run G (.cell 15 17) [.agg i.cells]=some (uv i.x.w1):=nr rfl
@[simp] theorem It.c16:XK.run G (.cell 16 17) [.agg i.cells]=some (uv i.x.w2):=nr rfl
@[simp] theorem It.lda:XK.run G (.pk (.load 17 true)) [.lptr i.cells]=some (.agg i.cells):=nr rfl
@[simp] theorem It.len:i.cells.length=17:=nr rfl
@[simp] theorem It.nrm:XK.run G .nrm [.agg i.cells]=some (.agg i.cells):=nr rfl
@[simp] theorem It.noT:(D.agg i.cells).noT=true:=nr rfl
def csP(n c m:Nat)(d:D):Option (List D):=if d.cells.length=n∧d.cells.all D.okC=true∧d.cells.all D.noTC=true then some ((d.cells.drop c).take m)else none
theorem cs_p{E:List D}{v n c m:Nat}(hm:0<m)(hc:c+m≤n):X.evs G E (cs v n c m)=ob (E[v]?) (csP n c m):=by
 cases hv:E[v]? with
 |none=>
  obtain⟨k,rfl⟩: ∃k,m=k+1:=⟨m-1,by omega⟩
  rw[cs,List.range_succ_eq_map,List.map_cons,xs_cons,x_mk,xs_cons,x_t,hv];rfl
 |some d=>
  rw[ob_s]
  unfold csP
  split
  ·rename_i hd
   have key: ∀l:List Nat,(∀j∈l,j<m)→X.evs G E (l.map fun j=>X.mk (.cell (c+j) n) [.t v])=some (l.map fun j=>d.cells.getD (c+j) .nil):=fun l hl=>by
    induction l with
    |nil=>rfl
    |cons j r ih=>
     have hj:=hl j (List.mem_cons_self ..)
     have h2:X.ev G E (X.mk (.cell (c+j) n) [.t v])=some (d.cells.getD (c+j) .nil):=by
      rw[x_mk,xs_cons,x_t,hv];simp only[ob_s,xs_nil]
      show(if d.cells.length=n∧d.cells.all D.okC=true∧d.cells.all D.noTC=true then d.cells[c+j]? else none)=_
      rw[if_pos hd,List.getD_eq_getElem?_getD,Ez (by omega)];rfl
     rw[List.map_cons,xs_cons,h2,ih fun k hk=>hl k (Cz _ hk)];rfl
   rw[cs,key _ fun j hj=>List.mem_range.1 hj]
   congr 1
   apply List.ext_getElem
   ·simp;omega
   ·intro i h1 h2
    have h3:c+i<d.cells.length:=by simp at h1;omega
    simp[List.getD_eq_getElem?_getD,h3]
  ·rename_i hd
   obtain⟨k,rfl⟩: ∃k,m=k+1:=⟨m-1,by omega⟩
   rw[cs,List.range_succ_eq_map,List.map_cons,xs_cons,x_mk,xs_cons,x_t,hv]
   simp only[ob_s,xs_nil]
   show ob (if d.cells.length=n∧d.cells.all D.okC=true∧d.cells.all D.noTC=true then d.cells[c+0]? else none) _=none
   rw[if_neg hd];rfl
@[simp] theorem cs3326{E:List D}{v:Nat}:X.evs G E (cs v 33 7 26)=ob (E[v]?) (csP 33 7 26):=cs_p (by omega) (by omega)
@[simp] theorem csP26{x:En}:csP 33 7 26 (.agg x.cells)=some [uv x.o0.lv,uv x.o0.dn,uv x.o0.rk,uv x.o0.dc,iv x.o0.tr,iv x.o0.wt,uv x.o1.lv,uv x.o1.dn,uv x.o1.rk,uv x.o1.dc,iv x.o1.tr,iv x.o1.wt,uv x.o2.lv,uv x.o2.dn,uv x.o2.rk,uv x.o2.dc,iv x.o2.tr,iv x.o2.wt,uv x.o3.lv,uv x.o3.dn,uv x.o3.rk,uv x.o3.dc,iv x.o3.tr,iv x.o3.wt,iv x.a0,iv x.a1]:=nr rfl
theorem r_min{a b:Int}:XK.run G (.pk (.mx2 false)) [iv a,iv b]=some (iv (if b<a then b else a)):=nr rfl
theorem slhI{l:List It}{n:Nat}(h:n≤l.length):XK.run G (.pk (.slc 17 false true false)) [.list (l.map It.cells),iv n]=some (.list ((l.take n).map It.cells)):=by
 have h1: ¬ ∃x,x∈l.map It.cells∧ ¬x.length=17:=fun⟨x,hx,hn⟩=>by obtain⟨e,_,rfl⟩:=List.mem_map.1 hx;exact hn rfl
 rw[List.map_take]
 generalize hL:l.map It.cells=L at h1
 have h2:n≤L.length:=by rw[←hL];simpa using h
 simp[XK.run,PK.run,slcV,intsV,boundsV,cutV,h1,h2,D.noT]
end
set_option maxHeartbeats 2000000 in
theorem l14(hF:Fr H)(s:Ss)(ks:List Ky)(l:List It)(hk:ks≠ [])(hk2:ks.length<65536)(hl: ∀i∈l,i.ok=true)(h21:XK.run (GK H) (.call false 21) [.agg s.cells]=some (.tup [.list (ks.map Ky.cells),iv 0])):
  XK.run (GK H) (.call false 14) [.agg s.cells, .list (l.map It.cells)]=some (.list ((entsOf ks l).map En.cells)):=by
 have hb: ∀x,(tagN x (.list ((entsOf ks l).map En.cells))).bare= .list ((entsOf ks l).map En.cells):=fun x=>by
  unfold tagN;split
  ·rfl
  ·split<;>rfl
 refine r_callB (r:=tagN (.mk .own [.t 7]) (.list ((entsOf ks l).map En.cells))) (by_term hF ok14 ?_) (hb _) rfl
 rw[tx14]
 obtain⟨n,hn,hn2⟩: ∃n:Nat,(if(40:Int)<l.length then 40 else(l.length:Int))=n∧n=min l.length 40:=⟨min l.length 40,by split<;>omega,rfl⟩
 have k1:XK.run (GK H) (.pk (.mx2 false)) [iv (l.length:Int),iv 40]=some (iv (n:Int)):=by rw[r_min,hn]
 have k2:=slhI (G:=GK H) (l:=l) (n:=n) (by omega)
 have hl2: ∀i∈l.take n,i.ok=true:=fun i hi=>hl i (List.mem_of_mem_take hi)
 have hent:entsOf ks l=(l.take n).filterMap fun i=>(ks[(i.at'%(ks.length:Int)).toNat]?).map i.en:=by
  unfold entsOf
  rw[hn2]
  congr 1
  by_cases h:l.length≤40
  ·rw[List.take_of_length_le h,List.take_of_length_le (by omega)]
  ·rw[Nat.min_eq_right (by omega)]
 have hl3:(l.take n).length≤40:=by simp;omega
 rw[hent]
 generalize l.take n=m at k2 hl2 hl3
 have kpos:0<ks.length:=List.length_pos_iff.2 hk
 simp[k1,k2,h21]
 refine loop_by (S:=Nat) (enc:=fun j=> [iv (j:Int), .list (((m.take j).filterMap fun i=>(ks[(i.at'%(ks.length:Int)).toNat]?).map i.en).map En.cells)]) (res:=fun _=>tagN (.mk .own [.t 7]) (.list ((m.filterMap fun i=>(ks[(i.at'%(ks.length:Int)).toNat]?).map i.en).map En.cells))) (mes:=fun j=>m.length-j) (ok:=fun j=>j≤m.length) ?_ 0 (by omega) (by omega)
 intro rec j hj ih
 cases h3:m[j]? with
 |none=>
  have l3:=List.getElem?_eq_none_iff.1 h3
  have l3': ¬(j:Int)<m.length:=by omega
  rw[List.take_of_length_le l3]
  generalize(m.filterMap fun i=>(ks[(i.at'%(ks.length:Int)).toNat]?).map i.en)=R
  simp[l3']
 |some i=>
  have l3:=(Gz.1 h3).1
  have e3:=(Gz.1 h3).2
  have hi:=hl2 i (Lz h3)
  have ih:=ih (j+1) (by omega) (by omega)
  have hlen:((m.take j).filterMap fun i=>(ks[(i.at'%(ks.length:Int)).toNat]?).map i.en).length<65536:=by
   have:=List.length_filterMap_le (fun i:It=>(ks[(i.at'%(ks.length:Int)).toNat]?).map i.en) (m.take j)
   simp at this⊢;omega
  simp only[It.ok,Az,decide_eq_true_eq]at hi
  obtain⟨⟨⟨ha,ha2⟩,hv⟩,hx⟩:=hi
  have hv:=u8_rng hv
  have hm1:=Int.emod_nonneg i.at' (b:=(ks.length:Int)) (by omega)
  have hm2:=Int.emod_lt_of_pos i.at' (b:=(ks.length:Int)) (by omega)
  obtain⟨q,hq⟩: ∃q:Nat,i.at'%(ks.length:Int)=q:=⟨(i.at'%(ks.length:Int)).toNat,by omega⟩
  have hql:q<ks.length:=by omega
  have hkq:ks[q]?=some ks[q]:=Ez hql
  generalize hkk:ks[q]=k at hkq
  have e1:(IntKind.i64.wrap i.at').tmod (ks.length:Int)=(q:Int):=by rw[wr (by omega) (by omega),tm ha,hq]
  have e2:IntKind.i64.wrap (1+(IntKind.i64.wrap i.vs).tmod 9)=1+i.vs%9:=by rw[wr (z:=i.vs) (by omega) (by omega),tm (by omega),wr (by omega) (by omega)]
  have k41:XK.run (GK H) (.call false 41) [.agg i.x.cells]=some (.agg i.x.en.cells):=r_call (l41 hF i.x hx) rfl rfl
  rw[List.take_add_one,h3,Option.toList_some,List.filterMap_append]at ih
  simp only[List.filterMap_cons,List.filterMap_nil,hq,Int.toNat_natCast,hkq,Pz]at ih
  generalize((m.take j).filterMap fun i=>(ks[(i.at'%(ks.length:Int)).toNat]?).map i.en)=out at ih hlen
  have kap:=appE (G:=GK H) (l:=out) (e:=i.en k) hlen
  unfold Sm.cells at k41
  have kne: ¬(ks.length:Int)=0:=by omega
  have kne2: ¬ks= []:=hk
  have wj:IntKind.i64.wrap ((j:Int)+1)=(j:Int)+1:=wr (by omega) (by omega)
  by_cases hkd:i.x.en.kd=0∨i.x.en.kd=4
  ·have hen:(D.agg (i.en k).cells)= .agg [iv k.rd,iv k.tb,iv k.bd,iv (1+i.vs%9),uv i.x.en.kd,uv 0,bv i.x.en.tu,uv i.x.en.o0.lv,uv i.x.en.o0.dn,uv i.x.en.o0.rk,uv i.x.en.o0.dc,iv i.x.en.o0.tr,iv i.x.en.o0.wt,uv i.x.en.o1.lv,uv i.x.en.o1.dn,uv i.x.en.o1.rk,uv i.x.en.o1.dc,iv i.x.en.o1.tr,iv i.x.en.o1.wt,uv i.x.en.o2.lv,uv i.x.en.o2.dn,uv i.x.en.o2.rk,uv i.x.en.o2.dc,iv i.x.en.o2.tr,iv i.x.en.o2.wt,uv i.x.en.o3.lv,uv i.x.en.o3.dn,uv i.x.en.o3.rk,uv i.x.en.o3.dc,iv i.x.en.o3.tr,iv i.x.en.o3.wt,iv i.x.en.a0,iv i.x.en.a1]:=by
    show D.agg (It.en i k).cells=_
    unfold It.en
    simp only[hkd,if_true]
    rfl
   have kl:=litE (G:=GK H) (e:=i.en k)
   rw[hen]at kl
   simp[l3,e3,e1,e2,k41,kne2,hql,hkk,hkd,kl,kap,wj]
   simpa using ih
  ·have hen:(D.agg (i.en k).cells)= .agg [iv k.rd,iv k.tb,iv k.bd,iv (1+i.vs%9),uv i.x.en.kd,uv i.x.en.fl,bv i.tu,uv i.x.en.o0.lv,uv i.x.en.o0.dn,uv i.x.en.o0.rk,uv i.x.en.o0.dc,iv i.x.en.o0.tr,iv i.x.en.o0.wt,uv i.x.en.o1.lv,uv i.x.en.o1.dn,uv i.x.en.o1.rk,uv i.x.en.o1.dc,iv i.x.en.o1.tr,iv i.x.en.o1.wt,uv i.x.en.o2.lv,uv i.x.en.o2.dn,uv i.x.en.o2.rk,uv i.x.en.o2.dc,iv i.x.en.o2.tr,iv i.x.en.o2.wt,uv i.x.en.o3.lv,uv i.x.en.o3.dn,uv i.x.en.o3.rk,uv i.x.en.o3.dc,iv i.x.en.o3.tr,iv i.x.en.o3.wt,iv i.x.en.a0,iv i.x.en.a1]:=by
    show D.agg (It.en i k).cells=_
    unfold It.en
    simp only[hkd,if_false]
    rfl
   have kl:=litE (G:=GK H) (e:=i.en k)
   rw[hen]at kl
   simp[l3,e3,e1,e2,k41,kne2,hql,hkk,hkd,kl,kap,wj]
   simpa using ih
end Ty
end
section
open Go.RowKit Go.Sort
namespace Ty
variable {H : FP}
theorem wgt_ok{o:Ou}{w:Int}(h:o.okB=true):(o.wgt w).okB=true:=h
theorem sm_ok{x:Sm}(hx:x.ok=true):x.en.okB=true:=by
 simp only[Sm.ok,Az]at hx
 obtain⟨⟨⟨⟨⟨⟨⟨⟨⟨⟨⟨⟨⟨gk,gf⟩,ga⟩,g0⟩,g1⟩,g2⟩,g3⟩,q0⟩,q1⟩,q2⟩,q3⟩,v0⟩,v1⟩,v2⟩:=hx
 have hk:=u8_rng gk
 have hf:=u8_rng gf
 have e1:u8 (x.k%5)=true:=u8_of (by omega) (by omega)
 have e2:u8 (x.f%4)=true:=u8_of (by omega) (by omega)
 have p0:=oc_ok x.b0 x.t0 g0
 have p1:=oc_ok x.b1 x.t1 g1
 have p2:=oc_ok x.b2 x.t2 g2
 have p3:=oc_ok x.b3 x.t3 g3
 have z:zO.okB=true:=rfl
 unfold Sm.en
 simp only
 repeat' split
 all_goals simp[En.okB,e1,e2,p0,p1,p2,p3,z,wgt_ok]
theorem it_ok{i:It}{k:Ky}(h:i.ok=true):(i.en k).okB=true:=by
 simp only[It.ok,Az]at h
 have h2:=sm_ok h.2
 simp only[En.okB,Az]at h2
 unfold It.en
 simp only[En.okB,Az]
 refine⟨⟨⟨⟨⟨h2.1.1.1.1.1, ?_⟩,h2.1.1.1.2⟩,h2.1.1.2⟩,h2.1.2⟩,h2.2⟩
 split
 ·rfl
 ·exact h2.1.1.1.1.2
theorem ents_ok{ks:List Ky}{l:List It}(hl: ∀i∈l,i.ok=true): ∀e∈entsOf ks l,e.okB=true:=fun e he=>by
 unfold entsOf at he
 obtain⟨i,hi,h⟩:=List.mem_filterMap.1 he
 obtain⟨k,_,rfl⟩:=Mz.1 h
 exact it_ok (hl i (List.mem_of_mem_take hi))
theorem ents_len(ks:List Ky)(l:List It):(entsOf ks l).length≤40:=by
 unfold entsOf
 refine Nat.le_trans (List.length_filterMap_le ..) ?_
 simp;omega
noncomputable def setOf(l:List En):List En:=ded (sortS ltE l)
theorem setOf_len(l:List En):(setOf l).length≤l.length:=by
 have h1:=(ded_sub (sortS ltE l)).length_le
 have h2:=(sortS_perm ltE l).length_eq
 unfold setOf;omega
theorem i15(hH:Hd H)(l:List En)(hok: ∀e∈l,e.okB=true)(hl:l.length<9999):XK.run (GK H) (.call false 15) [.list (l.map En.cells)]=some (.list ((setOf l).map En.cells)):=by
 by_cases h0:l= []
 ·subst h0
  exact r_call (GG_hand hH.k15) rfl rfl
 ·exact r_callB (g15 hH l hok hl h0) (bare_tagL _) rfl
theorem setB_setOf(l:List En)(hok: ∀e∈l,e.okB=true):setB (setOf l)=true:=by
 unfold setOf
 rw[ded_eq]
 exact ded_set _ (fun e he=>hok e ((sortS_perm ltE l).mem_iff.1 he)) (sortS_sorted swoE l)
structure GoodS(H:FP)(s:Ss):Prop where
 len:s.rows.length<9999
 ap:apartR s.rows=true
 ok:GK H 54 [.agg s.cells]=some (iv 0)
 bad: ∀b:Int,b≤0→GK H 54 [.agg ({s with bs:=b}:Ss).cells]=some (iv 282)
 nat: ∃b:Nat,s.bs=b∧b<9999
 ne:s.keys≠ []
 ln:s.keys.length<65536
 mul:0≤s.ss*s.bs∧s.ss*s.bs<10000
def zE:En:=⟨0,0,0,0,0,0,false,⟨0,0,0,0,0,0⟩,⟨0,0,0,0,0,0⟩,⟨0,0,0,0,0,0⟩,⟨0,0,0,0,0,0⟩,0,0⟩
section
variable {G : FP}
theorem lit2Z:XK.run G (.lit 33 2 [iv 0,iv 0,iv 0,iv 0,uv 0,uv 0,bv false,uv 0,uv 0,uv 0,uv 0,iv 0,iv 0,uv 0,uv 0,uv 0,uv 0,iv 0,iv 0,uv 0,uv 0,uv 0,uv 0,iv 0,iv 0,uv 0,uv 0,uv 0,uv 0,iv 0,iv 0,iv 0,iv 0,iv 0,iv 0,iv 0,iv 0,uv 0,uv 0,bv false,uv 0,uv 0,uv 0,uv 0,iv 0,iv 0,uv 0,uv 0,uv 0,uv 0,iv 0,iv 0,uv 0,uv 0,uv 0,uv 0,iv 0,iv 0,uv 0,uv 0,uv 0,uv 0,iv 0,iv 0,iv 0,iv 0] [(0,33),(33,33)]) [.agg [iv 0,iv 0,iv 0,iv 0,uv 0,uv 0,bv false,uv 0,uv 0,uv 0,uv 0,iv 0,iv 0,uv 0,uv 0,uv 0,uv 0,iv 0,iv 0,uv 0,uv 0,uv 0,uv 0,iv 0,iv 0,uv 0,uv 0,uv 0,uv 0,iv 0,iv 0,iv 0,iv 0], .agg [iv 0,iv 0,iv 0,iv 0,uv 0,uv 0,bv false,uv 0,uv 0,uv 0,uv 0,iv 0,iv 0,uv 0,uv 0,uv 0,uv 0,iv 0,iv 0,uv 0,uv 0,uv 0,uv 0,iv 0,iv 0,uv 0,uv 0,uv 0,uv 0,iv 0,iv 0,iv 0,iv 0]]=some (.list [zE.cells,zE.cells]):=nr rfl
theorem r_max{a b:Int}:XK.run G (.pk (.mx2 true)) [iv a,iv b]=some (iv (if a<b then b else a)):=nr rfl
theorem lit12{a b:Int}:XK.run G (.lit 1 2 [iv 0,iv 0] [(0,1),(1,1)]) [iv a,iv b]=some (.list [[iv a],[iv b]]):=nr rfl
end
section
variable {G : FP} {E : List D}
@[simp] theorem cs76{v:Nat}:X.evs G E (cs v 7 0 6)=ob (E[v]?) (csP 7 0 6):=cs_p (by omega) (by omega)
@[simp] theorem csP76{s:Ss}:csP 7 0 6 (.agg s.cells)=some [iv s.tb,iv s.rs,iv s.ss,iv s.cp,iv s.wn, .list (s.rows.map Rw.cells)]:=nr rfl
end
theorem nob(hH:Hd H){s:Ss}(hs:GoodS H s){l:List En}(hl:l.length<9999)(hset:setB l=true){n:Int}(hn:n<1∨s.ss*s.bs<n):
  XK.run (GK H) (.call false 23) [.agg s.cells, .list (l.map En.cells),iv n]=some (.tup [.list [],iv 6])∧XK.run (GK H) (.call false 24) [.agg s.cells, .list (l.map En.cells),iv n]=some (.tup [.agg [iv 0,iv 0], .agg [iv 0,iv 0],iv 6]):=by
 have hw:IntKind.i64.wrap (s.ss*s.bs)=s.ss*s.bs:=wr (by have:=hs.mul;omega) (by have:=hs.mul;omega)
 have h47:=l47 hH.fr s l hl hs.len hs.ap hs.ok hset
 have hn2:n<1∨IntKind.i64.wrap (s.ss*s.bs)<n:=by rw[hw];exact hn
 exact⟨r_callO (l23 hH.fr s l _ n h47 hs.ok hn2) rfl,r_call (l24 hH.fr s l _ n h47 hs.ok hn2) rfl rfl⟩
theorem rej(hH:Hd H){s:Ss}{l:List En}{c:Int}(hc:c≠0)(h19:GK H 19 [.agg s.cells, .list (l.map En.cells)]=some (D.own (.tup [.list [], .list [],iv c])))
  (h22:GK H 22 [.agg s.cells, .list (l.map En.cells)]=some (D.own (.tup [.list [],iv c]))):
  XK.run (GK H) (.call true 19) [.agg s.cells, .list (l.map En.cells)]=some (.tup [.list [], .list [],iv c])∧
  XK.run (GK H) (.call true 22) [.agg s.cells, .list (l.map En.cells)]=some (.tup [.list [],iv c])∧
  XK.run (GK H) (.call true 23) [.agg s.cells, .list (l.map En.cells),iv 1]=some (.tup [.list [],iv c])∧
  XK.run (GK H) (.call true 16) [.agg s.cells, .list (l.map En.cells)]=some (.tup [.list [],iv c])∧
  XK.run (GK H) (.call true 24) [.agg s.cells, .list (l.map En.cells),iv 1]=some (.tup [.agg [iv 0,iv 0], .agg [iv 0,iv 0],iv c]):=by
 have h47:=l47e hH.fr s l hc h19
 have h60:=l60e hH.fr s l 1 hc h47
 exact⟨r_callO h19 rfl,r_callO h22 rfl,r_callO (l23e hH.fr s l 1 hc h60) rfl,r_callO (l16e hH.fr s l hc h47) rfl,r_call (l24e hH.fr s l 1 hc h60) rfl rfl⟩
set_option maxHeartbeats 4000000 in
theorem l9(hH:Hd H)(h11:XK.run (GK H) (.call false 11) []=some (bv true)){n1 n2 n3 n4:Int}{s:Ss}(hs:GoodS H s)(h13:XK.run (GK H) (.call false 13) [.agg [uv n1,uv n2,uv n3,uv n4]]=some (.agg s.cells))(l:List It)(hl: ∀i∈l,i.ok=true)(k:Int):
  GK H 9 [.agg [uv n1,uv n2,uv n3,uv n4], .list (l.map It.cells),iv k]=some (bv true):=by
 obtain⟨b,hb1,hb2⟩:=hs.nat
 have h21:XK.run (GK H) (.call false 21) [.agg s.cells]=some (.tup [.list (s.skeys.map Ky.cells),iv 0]):=r_callO (l21 hH s hb1 hb2 hs.len hs.ne hs.ln hs.ok) rfl
 have hsk:s.skeys≠ []:=fun e=>hs.ne (by have:=(sortS_perm ltK s.keys).length_eq;unfold Ss.skeys at e;rw[e]at this;exact List.length_eq_zero_iff.1 this.symm)
 have hsl:s.skeys.length<65536:=by have:=(sortS_perm ltK s.keys).length_eq;have:=hs.ln;unfold Ss.skeys;omega
 have h14:=l14 hH.fr s s.skeys l hsk hsl hl h21
 have hel:=ents_len s.skeys l
 have heo:=ents_ok (ks:=s.skeys) hl
 have h15:=i15 hH (entsOf s.skeys l) heo (by omega)
 have hset:=setB_setOf (entsOf s.skeys l) heo
 have hsetl:=setOf_len (entsOf s.skeys l)
 generalize setOf (entsOf s.skeys l)=set at h15 hset hsetl
 have hb_a:=nob hH hs (l:=set) (by omega) hset (n:=if 0<k then 0 else k) (.inl (by split<;>omega))
 have hmul:=hs.mul
 have w1:IntKind.i64.wrap (s.ss*s.bs)=s.ss*s.bs:=wr (by omega) (by omega)
 have w2:IntKind.i64.wrap (s.ss*s.bs+1)=s.ss*s.bs+1:=wr (by omega) (by omega)
 have hb_b:=nob hH hs (l:=set) (by omega) hset (n:=if k<s.ss*s.bs+1 then s.ss*s.bs+1 else k) (.inr (by split<;>omega))
 have htw:setB (set++ [zE,zE])=false:=setB_twice set zE
 have htl:(set++ [zE,zE]).length<9999:=by simp;omega
 have r1:=rej hH (s:=s) (l:=set++ [zE,zE]) (c:=314) (by decide) (l19b hH.fr s _ htl hs.ok htw) (l22b hH.fr s _ (by decide) h21 (l47e hH.fr s _ (by decide) (l19b hH.fr s _ htl hs.ok htw)))
 have hbad:=hs.bad (if 0<k then 0 else k) (by split<;>omega)
 have r2:=rej hH (s:={s with bs:=if 0<k then 0 else k}) (l:=set++ [zE,zE]) (c:=282) (by decide) (l19a hH.fr _ _ hbad (by decide)) (l22a hH.fr _ _ (by decide) (l21e hH.fr _ (by decide) hbad))
 have r21:XK.run (GK H) (.call false 21) [.agg ({s with bs:=if 0<k then 0 else k}:Ss).cells]=some (.tup [.list [],iv 282]):=r_callO (l21e hH.fr _ (by decide) hbad) rfl
 refine by_term hH.fr ok9 ?_
 rw[tx9]
 have kc:XK.run (GK H) (.cell 0 4) [.agg [uv n1,uv n2,uv n3,uv n4]]=some (uv n1):=rfl
 have km:XK.run (GK H) (.pk (.mx2 false)) [iv k,iv 0]=some (iv (if 0<k then 0 else k)):=r_min
 have kM: ∀z:Int,XK.run (GK H) (.pk (.mx2 true)) [iv k,iv z]=some (iv (if k<z then z else k)):=fun z=>r_max
 have nn:XK.run (GK H) .nrm [.agg [uv n1,uv n2,uv n3,uv n4]]=some (.agg [uv n1,uv n2,uv n3,uv n4]):=rfl
 simp[kc,nn,h13,h14,h15,km,kM,w1,w2]
 generalize hA:(if 0<k then(0:Int)else k)=A at hb_a hbad r2 r21 km
 generalize(if k<s.ss*s.bs+1 then s.ss*s.bs+1 else k)=B at hb_b
 rw[lit12]
 have c2:XK.run (GK H) (.cell 0 2) [.agg [iv 0,iv 0]]=some (iv 0):=rfl
 have e0: ∀c,XK.run (GK H) (.pk (.ext 0)) [.tup [.agg [iv 0,iv 0], .agg [iv 0,iv 0],iv c]]=some (.agg [iv 0,iv 0]):=fun _=>rfl
 have e1: ∀c,XK.run (GK H) (.pk (.ext 1)) [.tup [.agg [iv 0,iv 0], .agg [iv 0,iv 0],iv c]]=some (.agg [iv 0,iv 0]):=fun _=>rfl
 have e2: ∀c,XK.run (GK H) (.pk (.ext 2)) [.tup [.agg [iv 0,iv 0], .agg [iv 0,iv 0],iv c]]=some (iv c):=fun _=>rfl
 have f0: ∀c,XK.run (GK H) (.pk (.ext 0)) [.tup [.list [],iv c]]=some (.list []):=fun _=>rfl
 have f1: ∀c,XK.run (GK H) (.pk (.ext 1)) [.tup [.list [],iv c]]=some (iv c):=fun _=>rfl
 have g0: ∀c,XK.run (GK H) (.pk (.ext 0)) [.tup [.list [], .list [],iv c]]=some (.list []):=fun _=>rfl
 have g1: ∀c,XK.run (GK H) (.pk (.ext 1)) [.tup [.list [], .list [],iv c]]=some (.list []):=fun _=>rfl
 have g2: ∀c,XK.run (GK H) (.pk (.ext 2)) [.tup [.list [], .list [],iv c]]=some (iv c):=fun _=>rfl
 have e3:XK.run (GK H) (.pk (.aeq true [3,3])) [.agg [iv 0,iv 0], .agg [iv 0,iv 0]]=some (bv false):=rfl
 have k2:XK.run (GK H) (.lit 33 0 [] []) []=some (.list []):=rfl
 have k3:XK.run (GK H) (.app 33) [.list [], .list (set.map En.cells)]=some (.list (set.map En.cells)):=by
  show(if rowsOK 33 (set.map En.cells)=true∧0+(set.map En.cells).length≤maxMade then some (D.list ([]++set.map En.cells))else none)=_
  rw[if_pos ⟨by unfold rowsOK;rw[Tz];intro x hx;obtain⟨e,_,rfl⟩:=List.mem_map.1 hx;rfl,by simp[maxMade];omega⟩];rfl
 have k5:XK.run (GK H) (.app 33) [.list (set.map En.cells), .list [zE.cells,zE.cells]]=some (.list ((set++ [zE,zE]).map En.cells)):=by
  show(if rowsOK 33 [zE.cells,zE.cells]=true∧(set.map En.cells).length+2≤maxMade then some (D.list (set.map En.cells++ [zE.cells,zE.cells]))else none)=_
  rw[if_pos ⟨rfl,by simp[maxMade];omega⟩];simp
 have k6:=lit2Z (G:=GK H)
 simp only[ob_s,r_len,List.length_cons,List.length_nil]
 rw[lp0]
 simp[hb_a,e0,e1,e2,e3,f0,f1,c2,-r_ext]
 rw[lp1]
 simp[hb_b,e0,e1,e2,e3,f0,f1,c2,-r_ext]
 rw[lp2]
 generalize(set++ [zE,zE]).map En.cells=tw at k5 r1 r2
 generalize hs':({s with bs:=A}:Ss)=s' at hbad r2 r21
 have ka:XK.run (GK H) .agg [iv s.tb,iv s.rs,iv s.ss,iv s.cp,iv s.wn, .list (s.rows.map Rw.cells),iv A]=some (.agg s'.cells):=by rw[←hs'];rfl
 have kl: ∀a b:Ss,XK.run (GK H) (.lit 7 2 [iv 0,iv 0,iv 0,iv 0,iv 0, .nil,iv 0,iv 0,iv 0,iv 0,iv 0,iv 0, .nil,iv 0] [(0,7),(7,7)]) [.agg a.cells, .agg b.cells]=some (.list [a.cells,b.cells]):=fun a b=>rfl
 have kn: ∀z:Int,XK.run (GK H) .nrmC [iv z]=some (iv z):=fun z=>rfl
 simp[k2,k3,k5,k6,km,ka,kl]
 rw[lp0]
 simp[r1,e0,e1,e2,f0,f1,g0,g1,g2,c2,-r_ext]
 rw[lp1]
 simp[r2,e0,e1,e2,f0,f1,g0,g1,g2,c2,-r_ext]
 rw[lp2]
 simp[r21,f0,f1,h11,ka,-r_ext]
end Ty
end
section
open Go.RowKit Go.Sort
namespace Ty
variable {H : FP}
structure Mv where
 tb:Int
 rs:Int
 ss:Int
 cp:Int
 wn:Int
 rows:List Rw
def Mv.cells(m:Mv):List D:= [iv m.tb,iv m.rs,iv m.ss,iv m.cp,iv m.wn, .list (m.rows.map Rw.cells)]
def Mv.ses(m:Mv)(b:Int):Ss:=⟨m.tb,m.rs,m.ss,m.cp,m.wn,m.rows,b⟩
def Mk(H:FP)(f:Nat)(ds:List D):Prop:= ∃m:Mv,XK.run (GK H) (.call false f) ds=some (.tup [.agg m.cells,iv 0])∧ ∀b:Int,(b=1∨b=2)→GoodS H (m.ses b)
def Mk1(H:FP)(f:Nat)(ds:List D):Prop:= ∃m:Mv,XK.run (GK H) (.call false f) ds=some (.agg m.cells)∧ ∀b:Int,(b=1∨b=2)→GoodS H (m.ses b)
structure Mvs(H:FP):Prop where
 q22:XK.run (GK H) (.call false 166) [iv 2,uv 2]=some (.tup [iv 1,iv 0])
 m22: ∀n:Int,1≤n→n≤1→Mk H 168 [iv 2,iv n,uv 2]
 q42:XK.run (GK H) (.call false 166) [iv 4,uv 2]=some (.tup [iv 3,iv 0])
 m42: ∀n:Int,1≤n→n≤3→Mk H 168 [iv 4,iv n,uv 2]
 q23:XK.run (GK H) (.call false 166) [iv 2,uv 3]=some (.tup [iv 2,iv 0])
 m23: ∀n:Int,1≤n→n≤2→Mk H 168 [iv 2,iv n,uv 3]
 q43:XK.run (GK H) (.call false 166) [iv 4,uv 3]=some (.tup [iv 4,iv 0])
 m43: ∀n:Int,1≤n→n≤4→Mk H 168 [iv 4,iv n,uv 3]
 q31:XK.run (GK H) (.call false 166) [iv 3,uv 1]=some (.tup [iv 3,iv 0])
 m31: ∀n:Int,1≤n→n≤3→Mk H 168 [iv 3,iv n,uv 1]
 q51:XK.run (GK H) (.call false 166) [iv 5,uv 1]=some (.tup [iv 5,iv 0])
 m51: ∀n:Int,1≤n→n≤5→Mk H 168 [iv 5,iv n,uv 1]
 r5: ∀n:Int,1≤n→n≤5→Mk H 167 [iv 5,iv n]
 h2: ∀n:Int,1≤n→n≤3→Mk H 123 [iv 2,iv n]
 h3: ∀n:Int,1≤n→n≤5→Mk H 123 [iv 3,iv n]
 h4: ∀n:Int,1≤n→n≤7→Mk H 123 [iv 4,iv n]
 h5: ∀n:Int,1≤n→n≤9→Mk H 123 [iv 5,iv n]
section
variable {G : FP} {m : Mv}
@[simp] theorem Mv.c0:XK.run G (.cell 0 6) [.agg m.cells]=some (iv m.tb):=nr rfl
@[simp] theorem Mv.c1:XK.run G (.cell 1 6) [.agg m.cells]=some (iv m.rs):=nr rfl
@[simp] theorem Mv.c2:XK.run G (.cell 2 6) [.agg m.cells]=some (iv m.ss):=nr rfl
@[simp] theorem Mv.c3:XK.run G (.cell 3 6) [.agg m.cells]=some (iv m.cp):=nr rfl
@[simp] theorem Mv.c4:XK.run G (.cell 4 6) [.agg m.cells]=some (iv m.wn):=nr rfl
@[simp] theorem Mv.c5:XK.run G (.cell 5 6) [.agg m.cells]=some (.list (m.rows.map Rw.cells)):=nr rfl
@[simp] theorem Mv.e0{d:D}:XK.run G (.pk (.ext 0)) [.tup [.agg m.cells,d]]=some (.agg m.cells):=nr rfl
@[simp] theorem Mv.e1{v:Value}:XK.run G (.pk (.ext 1)) [.tup [.agg m.cells, .v v]]=some (.v v):=nr rfl
@[simp] theorem ex0vv{a b:Value}:XK.run G (.pk (.ext 0)) [.tup [.v a, .v b]]=some (.v a):=nr rfl
@[simp] theorem ex1vv{a b:Value}:XK.run G (.pk (.ext 1)) [.tup [.v a, .v b]]=some (.v b):=nr rfl
@[simp] theorem Mv.nrm:XK.run G .nrm [.agg m.cells]=some (.agg m.cells):=nr rfl
@[simp] theorem Mv.noT:(D.agg m.cells).noT=true:=nr rfl
@[simp] theorem cs66{E:List D}{v:Nat}:X.evs G E (cs v 6 0 6)=ob (E[v]?) (csP 6 0 6):=cs_p (by omega) (by omega)
@[simp] theorem csP66:csP 6 0 6 (.agg m.cells)=some [iv m.tb,iv m.rs,iv m.ss,iv m.cp,iv m.wn, .list (m.rows.map Rw.cells)]:=nr rfl
theorem or_:XK.run G (.pk (.ibin .or)) [iv 2,iv 1]=some (iv 3)∧XK.run G (.pk (.ibin .or)) [iv 3,iv 1]=some (iv 3)∧XK.run G (.pk (.ibin .or)) [iv 4,iv 1]=some (iv 5)∧XK.run G (.pk (.ibin .or)) [iv 5,iv 1]=some (iv 5):=⟨rfl,rfl,rfl,rfl⟩
theorem an_:XK.run G (.pk (.ibin .andNot)) [iv 2,iv 1]=some (iv 2)∧XK.run G (.pk (.ibin .andNot)) [iv 3,iv 1]=some (iv 2)∧XK.run G (.pk (.ibin .andNot)) [iv 4,iv 1]=some (iv 4)∧XK.run G (.pk (.ibin .andNot)) [iv 5,iv 1]=some (iv 4):=⟨rfl,rfl,rfl,rfl⟩
theorem mx_{k:IntKind}{a b:Int}:XK.run G (.pk (.mx2 true)) [.v (.int k a), .v (.int k b)]=some (.v (.int k (if a<b then b else a))):=nr rfl
end
theorem Mv.all(m:Mv): ∀x,x∈m.cells→x.noTC=true:=by simp[Mv.cells]
theorem Ss.all(s:Ss): ∀x,x∈s.cells→x.noTC=true:=by simp[Ss.cells]
theorem bare_tagA{x:X}{xs:List D}:(tagN x (.agg xs)).bare= .agg xs:=by
 unfold tagN;split
 ·rfl
 ·split<;>rfl
theorem l121_00(hF:Fr H)(hM:Mvs H){r:Int}(hr:u8 r=true):Mk1 H 121 [uv 0,uv r,uv 0]:=by
 have h:=u8_rng hr
 obtain⟨m,hm,hg⟩:=hM.m31 (1+r%3) (by omega) (by omega)
 have ew:IntKind.i64.wrap (1+(IntKind.i64.wrap r).tmod 3)=1+r%3:=by rw[wr (z:=r) (by omega) (by omega),tm h.1,wr (by omega) (by omega)]
 refine⟨m,r_callB (r:=tagN (.mk .agg [.mk .nrmC [.t 10], .mk .nrmC [.t 11], .mk .nrmC [.t 12], .mk .nrmC [.t 13], .mk .nrmC [.t 14], .mk .nrmC [.t 15]]) (.agg m.cells)) (by_term hF ok121 ?_) bare_tagA rfl,hg⟩
 rw[tx121]
 have hq:=hM.q31
 have et:IntKind.i64.wrap (2+(IntKind.i64.wrap 0).tmod 23)=2:=by decide
 have ev:IntKind.i64.wrap 2=2:=by decide
 simp[-r_ext,et,or_,mx_,hq,ew,hm]
 rfl
theorem l121_01(hF:Fr H)(hM:Mvs H){r:Int}(hr:u8 r=true):Mk1 H 121 [uv 0,uv r,uv 1]:=by
 have h:=u8_rng hr
 obtain⟨m,hm,hg⟩:=hM.m31 (1+r%3) (by omega) (by omega)
 have ew:IntKind.i64.wrap (1+(IntKind.i64.wrap r).tmod 3)=1+r%3:=by rw[wr (z:=r) (by omega) (by omega),tm h.1,wr (by omega) (by omega)]
 refine⟨m,r_callB (r:=tagN (.mk .agg [.mk .nrmC [.t 10], .mk .nrmC [.t 11], .mk .nrmC [.t 12], .mk .nrmC [.t 13], .mk .nrmC [.t 14], .mk .nrmC [.t 15]]) (.agg m.cells)) (by_term hF ok121 ?_) bare_tagA rfl,hg⟩
 rw[tx121]
 have hq:=hM.q31
 have et:IntKind.i64.wrap (2+(IntKind.i64.wrap 0).tmod 23)=2:=by decide
 have ev:IntKind.i64.wrap 2=2:=by decide
 simp[-r_ext,et,or_,mx_,hq,ew,hm]
 rfl
theorem l121_02(hF:Fr H)(hM:Mvs H){r:Int}(hr:u8 r=true):Mk1 H 121 [uv 0,uv r,uv 2]:=by
 have h:=u8_rng hr
 obtain⟨m,hm,hg⟩:=hM.m22 (1+r%1) (by omega) (by omega)
 have ew:IntKind.i64.wrap (1+(IntKind.i64.wrap r).tmod 1)=1+r%1:=by rw[wr (z:=r) (by omega) (by omega),tm h.1,wr (by omega) (by omega)]
 refine⟨m,r_callB (r:=tagN (.mk .agg [.mk .nrmC [.t 10], .mk .nrmC [.t 11], .mk .nrmC [.t 12], .mk .nrmC [.t 13], .mk .nrmC [.t 14], .mk .nrmC [.t 15]]) (.agg m.cells)) (by_term hF ok121 ?_) bare_tagA rfl,hg⟩
 rw[tx121]
 rw[show 1+r%1=1 by omega]at hm
 have hq:=hM.q22
 have et:IntKind.i64.wrap (2+(IntKind.i64.wrap 0).tmod 23)=2:=by decide
 have ev:IntKind.i64.wrap 2=2:=by decide
 simp[-r_ext,et,or_,an_,mx_,hq,hm]
 rfl
theorem l121_03(hF:Fr H)(hM:Mvs H){r:Int}(hr:u8 r=true):Mk1 H 121 [uv 0,uv r,uv 3]:=by
 have h:=u8_rng hr
 obtain⟨m,hm,hg⟩:=hM.m23 (1+r%2) (by omega) (by omega)
 have ew:IntKind.i64.wrap (1+(IntKind.i64.wrap r).tmod 2)=1+r%2:=by rw[wr (z:=r) (by omega) (by omega),tm h.1,wr (by omega) (by omega)]
 refine⟨m,r_callB (r:=tagN (.mk .agg [.mk .nrmC [.t 10], .mk .nrmC [.t 11], .mk .nrmC [.t 12], .mk .nrmC [.t 13], .mk .nrmC [.t 14], .mk .nrmC [.t 15]]) (.agg m.cells)) (by_term hF ok121 ?_) bare_tagA rfl,hg⟩
 rw[tx121]
 have hq:=hM.q23
 have et:IntKind.i64.wrap (2+(IntKind.i64.wrap 0).tmod 23)=2:=by decide
 have ev:IntKind.i64.wrap 2=2:=by decide
 simp[-r_ext,et,or_,an_,mx_,hq,ew,hm]
 rfl
theorem l121_10(hF:Fr H)(hM:Mvs H){r:Int}(hr:u8 r=true):Mk1 H 121 [uv 1,uv r,uv 0]:=by
 have h:=u8_rng hr
 obtain⟨m,hm,hg⟩:=hM.m31 (1+r%3) (by omega) (by omega)
 have ew:IntKind.i64.wrap (1+(IntKind.i64.wrap r).tmod 3)=1+r%3:=by rw[wr (z:=r) (by omega) (by omega),tm h.1,wr (by omega) (by omega)]
 refine⟨m,r_callB (r:=tagN (.mk .agg [.mk .nrmC [.t 10], .mk .nrmC [.t 11], .mk .nrmC [.t 12], .mk .nrmC [.t 13], .mk .nrmC [.t 14], .mk .nrmC [.t 15]]) (.agg m.cells)) (by_term hF ok121 ?_) bare_tagA rfl,hg⟩
 rw[tx121]
 have hq:=hM.q31
 have et:IntKind.i64.wrap (2+(IntKind.i64.wrap 1).tmod 23)=3:=by decide
 have ev:IntKind.i64.wrap 3=3:=by decide
 simp[-r_ext,ev,or_,mx_,hq,ew,hm]
 rfl
theorem l121_11(hF:Fr H)(hM:Mvs H){r:Int}(hr:u8 r=true):Mk1 H 121 [uv 1,uv r,uv 1]:=by
 have h:=u8_rng hr
 obtain⟨m,hm,hg⟩:=hM.m31 (1+r%3) (by omega) (by omega)
 have ew:IntKind.i64.wrap (1+(IntKind.i64.wrap r).tmod 3)=1+r%3:=by rw[wr (z:=r) (by omega) (by omega),tm h.1,wr (by omega) (by omega)]
 refine⟨m,r_callB (r:=tagN (.mk .agg [.mk .nrmC [.t 10], .mk .nrmC [.t 11], .mk .nrmC [.t 12], .mk .nrmC [.t 13], .mk .nrmC [.t 14], .mk .nrmC [.t 15]]) (.agg m.cells)) (by_term hF ok121 ?_) bare_tagA rfl,hg⟩
 rw[tx121]
 have hq:=hM.q31
 have et:IntKind.i64.wrap (2+(IntKind.i64.wrap 1).tmod 23)=3:=by decide
 have ev:IntKind.i64.wrap 3=3:=by decide
 simp[-r_ext,ev,or_,mx_,hq,ew,hm]
 rfl
theorem l121_12(hF:Fr H)(hM:Mvs H){r:Int}(hr:u8 r=true):Mk1 H 121 [uv 1,uv r,uv 2]:=by
 have h:=u8_rng hr
 obtain⟨m,hm,hg⟩:=hM.m22 (1+r%1) (by omega) (by omega)
 have ew:IntKind.i64.wrap (1+(IntKind.i64.wrap r).tmod 1)=1+r%1:=by rw[wr (z:=r) (by omega) (by omega),tm h.1,wr (by omega) (by omega)]
 refine⟨m,r_callB (r:=tagN (.mk .agg [.mk .nrmC [.t 10], .mk .nrmC [.t 11], .mk .nrmC [.t 12], .mk .nrmC [.t 13], .mk .nrmC [.t 14], .mk .nrmC [.t 15]]) (.agg m.cells)) (by_term hF ok121 ?_) bare_tagA rfl,hg⟩
 rw[tx121]
 rw[show 1+r%1=1 by omega]at hm
 have hq:=hM.q22
 have et:IntKind.i64.wrap (2+(IntKind.i64.wrap 1).tmod 23)=3:=by decide
 have ev:IntKind.i64.wrap 3=3:=by decide
 simp[-r_ext,ev,or_,an_,mx_,hq,hm]
 rfl
theorem l121_13(hF:Fr H)(hM:Mvs H){r:Int}(hr:u8 r=true):Mk1 H 121 [uv 1,uv r,uv 3]:=by
 have h:=u8_rng hr
 obtain⟨m,hm,hg⟩:=hM.m23 (1+r%2) (by omega) (by omega)
 have ew:IntKind.i64.wrap (1+(IntKind.i64.wrap r).tmod 2)=1+r%2:=by rw[wr (z:=r) (by omega) (by omega),tm h.1,wr (by omega) (by omega)]
 refine⟨m,r_callB (r:=tagN (.mk .agg [.mk .nrmC [.t 10], .mk .nrmC [.t 11], .mk .nrmC [.t 12], .mk .nrmC [.t 13], .mk .nrmC [.t 14], .mk .nrmC [.t 15]]) (.agg m.cells)) (by_term hF ok121 ?_) bare_tagA rfl,hg⟩
 rw[tx121]
 have hq:=hM.q23
 have et:IntKind.i64.wrap (2+(IntKind.i64.wrap 1).tmod 23)=3:=by decide
 have ev:IntKind.i64.wrap 3=3:=by decide
 simp[-r_ext,ev,or_,an_,mx_,hq,ew,hm]
 rfl
theorem l121_20(hF:Fr H)(hM:Mvs H){r:Int}(hr:u8 r=true):Mk1 H 121 [uv 2,uv r,uv 0]:=by
 have h:=u8_rng hr
 obtain⟨m,hm,hg⟩:=hM.m51 (1+r%5) (by omega) (by omega)
 have ew:IntKind.i64.wrap (1+(IntKind.i64.wrap r).tmod 5)=1+r%5:=by rw[wr (z:=r) (by omega) (by omega),tm h.1,wr (by omega) (by omega)]
 refine⟨m,r_callB (r:=tagN (.mk .agg [.mk .nrmC [.t 10], .mk .nrmC [.t 11], .mk .nrmC [.t 12], .mk .nrmC [.t 13], .mk .nrmC [.t 14], .mk .nrmC [.t 15]]) (.agg m.cells)) (by_term hF ok121 ?_) bare_tagA rfl,hg⟩
 rw[tx121]
 have hq:=hM.q51
 have et:IntKind.i64.wrap (2+(IntKind.i64.wrap 2).tmod 23)=4:=by decide
 have ev:IntKind.i64.wrap 4=4:=by decide
 simp[-r_ext,ev,or_,mx_,hq,ew,hm]
 rfl
theorem l121_21(hF:Fr H)(hM:Mvs H){r:Int}(hr:u8 r=true):Mk1 H 121 [uv 2,uv r,uv 1]:=by
 have h:=u8_rng hr
 obtain⟨m,hm,hg⟩:=hM.m51 (1+r%5) (by omega) (by omega)
 have ew:IntKind.i64.wrap (1+(IntKind.i64.wrap r).tmod 5)=1+r%5:=by rw[wr (z:=r) (by omega) (by omega),tm h.1,wr (by omega) (by omega)]
 refine⟨m,r_callB (r:=tagN (.mk .agg [.mk .nrmC [.t 10], .mk .nrmC [.t 11], .mk .nrmC [.t 12], .mk .nrmC [.t 13], .mk .nrmC [.t 14], .mk .nrmC [.t 15]]) (.agg m.cells)) (by_term hF ok121 ?_) bare_tagA rfl,hg⟩
 rw[tx121]
 have hq:=hM.q51
 have et:IntKind.i64.wrap (2+(IntKind.i64.wrap 2).tmod 23)=4:=by decide
 have ev:IntKind.i64.wrap 4=4:=by decide
 simp[-r_ext,ev,or_,mx_,hq,ew,hm]
 rfl
theorem l121_22(hF:Fr H)(hM:Mvs H){r:Int}(hr:u8 r=true):Mk1 H 121 [uv 2,uv r,uv 2]:=by
 have h:=u8_rng hr
 obtain⟨m,hm,hg⟩:=hM.m42 (1+r%3) (by omega) (by omega)
 have ew:IntKind.i64.wrap (1+(IntKind.i64.wrap r).tmod 3)=1+r%3:=by rw[wr (z:=r) (by omega) (by omega),tm h.1,wr (by omega) (by omega)]
 refine⟨m,r_callB (r:=tagN (.mk .agg [.mk .nrmC [.t 10], .mk .nrmC [.t 11], .mk .nrmC [.t 12], .mk .nrmC [.t 13], .mk .nrmC [.t 14], .mk .nrmC [.t 15]]) (.agg m.cells)) (by_term hF ok121 ?_) bare_tagA rfl,hg⟩
 rw[tx121]
 have hq:=hM.q42
 have et:IntKind.i64.wrap (2+(IntKind.i64.wrap 2).tmod 23)=4:=by decide
 have ev:IntKind.i64.wrap 4=4:=by decide
 simp[-r_ext,ev,or_,an_,mx_,hq,ew,hm]
 rfl
theorem l121_23(hF:Fr H)(hM:Mvs H){r:Int}(hr:u8 r=true):Mk1 H 121 [uv 2,uv r,uv 3]:=by
 have h:=u8_rng hr
 obtain⟨m,hm,hg⟩:=hM.m43 (1+r%4) (by omega) (by omega)
 have ew:IntKind.i64.wrap (1+(IntKind.i64.wrap r).tmod 4)=1+r%4:=by rw[wr (z:=r) (by omega) (by omega),tm h.1,wr (by omega) (by omega)]
 refine⟨m,r_callB (r:=tagN (.mk .agg [.mk .nrmC [.t 10], .mk .nrmC [.t 11], .mk .nrmC [.t 12], .mk .nrmC [.t 13], .mk .nrmC [.t 14], .mk .nrmC [.t 15]]) (.agg m.cells)) (by_term hF ok121 ?_) bare_tagA rfl,hg⟩
 rw[tx121]
 have hq:=hM.q43
 have et:IntKind.i64.wrap (2+(IntKind.i64.wrap 2).tmod 23)=4:=by decide
 have ev:IntKind.i64.wrap 4=4:=by decide
 simp[-r_ext,ev,or_,an_,mx_,hq,ew,hm]
 rfl
theorem l121_30(hF:Fr H)(hM:Mvs H){r:Int}(hr:u8 r=true):Mk1 H 121 [uv 3,uv r,uv 0]:=by
 have h:=u8_rng hr
 obtain⟨m,hm,hg⟩:=hM.r5 (1+r%5) (by omega) (by omega)
 have ew:IntKind.i64.wrap (1+(IntKind.i64.wrap r).tmod 5)=1+r%5:=by rw[wr (z:=r) (by omega) (by omega),tm h.1,wr (by omega) (by omega)]
 refine⟨m,r_callB (r:=tagN (.mk .agg [.mk .nrmC [.t 10], .mk .nrmC [.t 11], .mk .nrmC [.t 12], .mk .nrmC [.t 13], .mk .nrmC [.t 14], .mk .nrmC [.t 15]]) (.agg m.cells)) (by_term hF ok121 ?_) bare_tagA rfl,hg⟩
 rw[tx121]
 have hq:=hM.q51
 have et:IntKind.i64.wrap (2+(IntKind.i64.wrap 3).tmod 23)=5:=by decide
 have ev:IntKind.i64.wrap 5=5:=by decide
 simp[-r_ext,ev,or_,mx_,hq,ew,hm]
 rfl
theorem l121_31(hF:Fr H)(hM:Mvs H){r:Int}(hr:u8 r=true):Mk1 H 121 [uv 3,uv r,uv 1]:=by
 have h:=u8_rng hr
 obtain⟨m,hm,hg⟩:=hM.m51 (1+r%5) (by omega) (by omega)
 have ew:IntKind.i64.wrap (1+(IntKind.i64.wrap r).tmod 5)=1+r%5:=by rw[wr (z:=r) (by omega) (by omega),tm h.1,wr (by omega) (by omega)]
 refine⟨m,r_callB (r:=tagN (.mk .agg [.mk .nrmC [.t 10], .mk .nrmC [.t 11], .mk .nrmC [.t 12], .mk .nrmC [.t 13], .mk .nrmC [.t 14], .mk .nrmC [.t 15]]) (.agg m.cells)) (by_term hF ok121 ?_) bare_tagA rfl,hg⟩
 rw[tx121]
 have hq:=hM.q51
 have et:IntKind.i64.wrap (2+(IntKind.i64.wrap 3).tmod 23)=5:=by decide
 have ev:IntKind.i64.wrap 5=5:=by decide
 simp[-r_ext,ev,or_,mx_,hq,ew,hm]
 rfl
theorem l121_32(hF:Fr H)(hM:Mvs H){r:Int}(hr:u8 r=true):Mk1 H 121 [uv 3,uv r,uv 2]:=by
 have h:=u8_rng hr
 obtain⟨m,hm,hg⟩:=hM.m42 (1+r%3) (by omega) (by omega)
 have ew:IntKind.i64.wrap (1+(IntKind.i64.wrap r).tmod 3)=1+r%3:=by rw[wr (z:=r) (by omega) (by omega),tm h.1,wr (by omega) (by omega)]
 refine⟨m,r_callB (r:=tagN (.mk .agg [.mk .nrmC [.t 10], .mk .nrmC [.t 11], .mk .nrmC [.t 12], .mk .nrmC [.t 13], .mk .nrmC [.t 14], .mk .nrmC [.t 15]]) (.agg m.cells)) (by_term hF ok121 ?_) bare_tagA rfl,hg⟩
 rw[tx121]
 have hq:=hM.q42
 have et:IntKind.i64.wrap (2+(IntKind.i64.wrap 3).tmod 23)=5:=by decide
 have ev:IntKind.i64.wrap 5=5:=by decide
 simp[-r_ext,ev,or_,an_,mx_,hq,ew,hm]
 rfl
theorem l121_33(hF:Fr H)(hM:Mvs H){r:Int}(hr:u8 r=true):Mk1 H 121 [uv 3,uv r,uv 3]:=by
 have h:=u8_rng hr
 obtain⟨m,hm,hg⟩:=hM.m43 (1+r%4) (by omega) (by omega)
 have ew:IntKind.i64.wrap (1+(IntKind.i64.wrap r).tmod 4)=1+r%4:=by rw[wr (z:=r) (by omega) (by omega),tm h.1,wr (by omega) (by omega)]
 refine⟨m,r_callB (r:=tagN (.mk .agg [.mk .nrmC [.t 10], .mk .nrmC [.t 11], .mk .nrmC [.t 12], .mk .nrmC [.t 13], .mk .nrmC [.t 14], .mk .nrmC [.t 15]]) (.agg m.cells)) (by_term hF ok121 ?_) bare_tagA rfl,hg⟩
 rw[tx121]
 have hq:=hM.q43
 have et:IntKind.i64.wrap (2+(IntKind.i64.wrap 3).tmod 23)=5:=by decide
 have ev:IntKind.i64.wrap 5=5:=by decide
 simp[-r_ext,ev,or_,an_,mx_,hq,ew,hm]
 rfl
theorem l78_00(hF:Fr H)(hM:Mvs H){r:Int}(hr:u8 r=true):Mk1 H 78 [uv 0,uv r,uv 0]:=by
 obtain⟨m,hm,hg⟩:=l121_00 hF hM hr
 refine⟨m,r_callB (r:=tagN (.mk .nrm [.t 5]) (.agg m.cells)) (by_term hF ok78 ?_) bare_tagA rfl,hg⟩
 rw[tx78]
 simp[-r_ext,hm]
 exact Mv.all m
theorem l78_01(hF:Fr H)(hM:Mvs H){r:Int}(hr:u8 r=true):Mk1 H 78 [uv 0,uv r,uv 1]:=by
 obtain⟨m,hm,hg⟩:=l121_01 hF hM hr
 refine⟨m,r_callB (r:=tagN (.mk .nrm [.t 5]) (.agg m.cells)) (by_term hF ok78 ?_) bare_tagA rfl,hg⟩
 rw[tx78]
 simp[-r_ext,hm]
 exact Mv.all m
theorem l78_02(hF:Fr H)(hM:Mvs H){r:Int}(hr:u8 r=true):Mk1 H 78 [uv 0,uv r,uv 2]:=by
 obtain⟨m,hm,hg⟩:=l121_02 hF hM hr
 refine⟨m,r_callB (r:=tagN (.mk .nrm [.t 5]) (.agg m.cells)) (by_term hF ok78 ?_) bare_tagA rfl,hg⟩
 rw[tx78]
 simp[-r_ext,hm]
 exact Mv.all m
theorem l78_03(hF:Fr H)(hM:Mvs H){r:Int}(hr:u8 r=true):Mk1 H 78 [uv 0,uv r,uv 3]:=by
 obtain⟨m,hm,hg⟩:=l121_03 hF hM hr
 refine⟨m,r_callB (r:=tagN (.mk .nrm [.t 5]) (.agg m.cells)) (by_term hF ok78 ?_) bare_tagA rfl,hg⟩
 rw[tx78]
 simp[-r_ext,hm]
 exact Mv.all m
theorem l78_07(hF:Fr H)(hM:Mvs H){r:Int}(hr:u8 r=true):Mk1 H 78 [uv 0,uv r,uv 7]:=by
 have h:=u8_rng hr
 obtain⟨m,hm,hg⟩:=hM.h2 (1+r%3) (by omega) (by omega)
 have ew:IntKind.i64.wrap (1+(IntKind.i64.wrap r).tmod 3)=1+r%3:=by rw[wr (z:=r) (by omega) (by omega),tm h.1,wr (by omega) (by omega)]
 have et:IntKind.i64.wrap (2+(IntKind.i64.wrap 0).tmod 23)=2:=by decide
 have e1:IntKind.i64.wrap 4=4:=by decide
 have e2:IntKind.i64.wrap 3=3:=by decide
 refine⟨m,r_callB (r:=tagN (.mk .nrm [.t 8]) (.agg m.cells)) (by_term hF ok78 ?_) bare_tagA rfl,hg⟩
 rw[tx78]
 have ev:IntKind.i64.wrap 2=2:=by decide
 simp[-r_ext,et,e1,e2,ew,hm]
 exact Mv.all m
theorem l78_10(hF:Fr H)(hM:Mvs H){r:Int}(hr:u8 r=true):Mk1 H 78 [uv 1,uv r,uv 0]:=by
 obtain⟨m,hm,hg⟩:=l121_10 hF hM hr
 refine⟨m,r_callB (r:=tagN (.mk .nrm [.t 5]) (.agg m.cells)) (by_term hF ok78 ?_) bare_tagA rfl,hg⟩
 rw[tx78]
 simp[-r_ext,hm]
 exact Mv.all m
theorem l78_11(hF:Fr H)(hM:Mvs H){r:Int}(hr:u8 r=true):Mk1 H 78 [uv 1,uv r,uv 1]:=by
 obtain⟨m,hm,hg⟩:=l121_11 hF hM hr
 refine⟨m,r_callB (r:=tagN (.mk .nrm [.t 5]) (.agg m.cells)) (by_term hF ok78 ?_) bare_tagA rfl,hg⟩
 rw[tx78]
 simp[-r_ext,hm]
 exact Mv.all m
theorem l78_12(hF:Fr H)(hM:Mvs H){r:Int}(hr:u8 r=true):Mk1 H 78 [uv 1,uv r,uv 2]:=by
 obtain⟨m,hm,hg⟩:=l121_12 hF hM hr
 refine⟨m,r_callB (r:=tagN (.mk .nrm [.t 5]) (.agg m.cells)) (by_term hF ok78 ?_) bare_tagA rfl,hg⟩
 rw[tx78]
 simp[-r_ext,hm]
 exact Mv.all m
theorem l78_13(hF:Fr H)(hM:Mvs H){r:Int}(hr:u8 r=true):Mk1 H 78 [uv 1,uv r,uv 3]:=by
 obtain⟨m,hm,hg⟩:=l121_13 hF hM hr
 refine⟨m,r_callB (r:=tagN (.mk .nrm [.t 5]) (.agg m.cells)) (by_term hF ok78 ?_) bare_tagA rfl,hg⟩
 rw[tx78]
 simp[-r_ext,hm]
 exact Mv.all m
theorem l78_17(hF:Fr H)(hM:Mvs H){r:Int}(hr:u8 r=true):Mk1 H 78 [uv 1,uv r,uv 7]:=by
 have h:=u8_rng hr
 obtain⟨m,hm,hg⟩:=hM.h3 (1+r%5) (by omega) (by omega)
 have ew:IntKind.i64.wrap (1+(IntKind.i64.wrap r).tmod 5)=1+r%5:=by rw[wr (z:=r) (by omega) (by omega),tm h.1,wr (by omega) (by omega)]
 have et:IntKind.i64.wrap (2+(IntKind.i64.wrap 1).tmod 23)=3:=by decide
 have e1:IntKind.i64.wrap 6=6:=by decide
 have e2:IntKind.i64.wrap 5=5:=by decide
 refine⟨m,r_callB (r:=tagN (.mk .nrm [.t 8]) (.agg m.cells)) (by_term hF ok78 ?_) bare_tagA rfl,hg⟩
 rw[tx78]
 have ev:IntKind.i64.wrap 3=3:=by decide
 simp[-r_ext,ev,e1,e2,ew,hm]
 exact Mv.all m
theorem l78_20(hF:Fr H)(hM:Mvs H){r:Int}(hr:u8 r=true):Mk1 H 78 [uv 2,uv r,uv 0]:=by
 obtain⟨m,hm,hg⟩:=l121_20 hF hM hr
 refine⟨m,r_callB (r:=tagN (.mk .nrm [.t 5]) (.agg m.cells)) (by_term hF ok78 ?_) bare_tagA rfl,hg⟩
 rw[tx78]
 simp[-r_ext,hm]
 exact Mv.all m
theorem l78_21(hF:Fr H)(hM:Mvs H){r:Int}(hr:u8 r=true):Mk1 H 78 [uv 2,uv r,uv 1]:=by
 obtain⟨m,hm,hg⟩:=l121_21 hF hM hr
 refine⟨m,r_callB (r:=tagN (.mk .nrm [.t 5]) (.agg m.cells)) (by_term hF ok78 ?_) bare_tagA rfl,hg⟩
 rw[tx78]
 simp[-r_ext,hm]
 exact Mv.all m
theorem l78_22(hF:Fr H)(hM:Mvs H){r:Int}(hr:u8 r=true):Mk1 H 78 [uv 2,uv r,uv 2]:=by
 obtain⟨m,hm,hg⟩:=l121_22 hF hM hr
 refine⟨m,r_callB (r:=tagN (.mk .nrm [.t 5]) (.agg m.cells)) (by_term hF ok78 ?_) bare_tagA rfl,hg⟩
 rw[tx78]
 simp[-r_ext,hm]
 exact Mv.all m
theorem l78_23(hF:Fr H)(hM:Mvs H){r:Int}(hr:u8 r=true):Mk1 H 78 [uv 2,uv r,uv 3]:=by
 obtain⟨m,hm,hg⟩:=l121_23 hF hM hr
 refine⟨m,r_callB (r:=tagN (.mk .nrm [.t 5]) (.agg m.cells)) (by_term hF ok78 ?_) bare_tagA rfl,hg⟩
 rw[tx78]
 simp[-r_ext,hm]
 exact Mv.all m
theorem l78_27(hF:Fr H)(hM:Mvs H){r:Int}(hr:u8 r=true):Mk1 H 78 [uv 2,uv r,uv 7]:=by
 have h:=u8_rng hr
 obtain⟨m,hm,hg⟩:=hM.h4 (1+r%7) (by omega) (by omega)
 have ew:IntKind.i64.wrap (1+(IntKind.i64.wrap r).tmod 7)=1+r%7:=by rw[wr (z:=r) (by omega) (by omega),tm h.1,wr (by omega) (by omega)]
 have et:IntKind.i64.wrap (2+(IntKind.i64.wrap 2).tmod 23)=4:=by decide
 have e1:IntKind.i64.wrap 8=8:=by decide
 have e2:IntKind.i64.wrap 7=7:=by decide
 refine⟨m,r_callB (r:=tagN (.mk .nrm [.t 8]) (.agg m.cells)) (by_term hF ok78 ?_) bare_tagA rfl,hg⟩
 rw[tx78]
 have ev:IntKind.i64.wrap 4=4:=by decide
 simp[-r_ext,ev,e1,e2,ew,hm]
 exact Mv.all m
theorem l78_30(hF:Fr H)(hM:Mvs H){r:Int}(hr:u8 r=true):Mk1 H 78 [uv 3,uv r,uv 0]:=by
 obtain⟨m,hm,hg⟩:=l121_30 hF hM hr
 refine⟨m,r_callB (r:=tagN (.mk .nrm [.t 5]) (.agg m.cells)) (by_term hF ok78 ?_) bare_tagA rfl,hg⟩
 rw[tx78]
 simp[-r_ext,hm]
 exact Mv.all m
theorem l78_31(hF:Fr H)(hM:Mvs H){r:Int}(hr:u8 r=true):Mk1 H 78 [uv 3,uv r,uv 1]:=by
 obtain⟨m,hm,hg⟩:=l121_31 hF hM hr
 refine⟨m,r_callB (r:=tagN (.mk .nrm [.t 5]) (.agg m.cells)) (by_term hF ok78 ?_) bare_tagA rfl,hg⟩
 rw[tx78]
 simp[-r_ext,hm]
 exact Mv.all m
theorem l78_32(hF:Fr H)(hM:Mvs H){r:Int}(hr:u8 r=true):Mk1 H 78 [uv 3,uv r,uv 2]:=by
 obtain⟨m,hm,hg⟩:=l121_32 hF hM hr
 refine⟨m,r_callB (r:=tagN (.mk .nrm [.t 5]) (.agg m.cells)) (by_term hF ok78 ?_) bare_tagA rfl,hg⟩
 rw[tx78]
 simp[-r_ext,hm]
 exact Mv.all m
theorem l78_33(hF:Fr H)(hM:Mvs H){r:Int}(hr:u8 r=true):Mk1 H 78 [uv 3,uv r,uv 3]:=by
 obtain⟨m,hm,hg⟩:=l121_33 hF hM hr
 refine⟨m,r_callB (r:=tagN (.mk .nrm [.t 5]) (.agg m.cells)) (by_term hF ok78 ?_) bare_tagA rfl,hg⟩
 rw[tx78]
 simp[-r_ext,hm]
 exact Mv.all m
theorem l78_37(hF:Fr H)(hM:Mvs H){r:Int}(hr:u8 r=true):Mk1 H 78 [uv 3,uv r,uv 7]:=by
 have h:=u8_rng hr
 obtain⟨m,hm,hg⟩:=hM.h5 (1+r%9) (by omega) (by omega)
 have ew:IntKind.i64.wrap (1+(IntKind.i64.wrap r).tmod 9)=1+r%9:=by rw[wr (z:=r) (by omega) (by omega),tm h.1,wr (by omega) (by omega)]
 have et:IntKind.i64.wrap (2+(IntKind.i64.wrap 3).tmod 23)=5:=by decide
 have e1:IntKind.i64.wrap 10=10:=by decide
 have e2:IntKind.i64.wrap 9=9:=by decide
 refine⟨m,r_callB (r:=tagN (.mk .nrm [.t 8]) (.agg m.cells)) (by_term hF ok78 ?_) bare_tagA rfl,hg⟩
 rw[tx78]
 have ev:IntKind.i64.wrap 5=5:=by decide
 simp[-r_ext,ev,e1,e2,ew,hm]
 exact Mv.all m
theorem l40(hF:Fr H){n1 n2 n3 n4 a c kd:Int}(h4:u8 n4=true)(ha:n1.tmod 4=a)(hc:n3.tmod 5=c)(hx:XK.run (GK H) (.pk (.aix 5 1 false)) [.agg [uv 0,uv 1,uv 2,uv 3,uv 7],uv c]=some (uv kd))(hm:Mk1 H 78 [uv a,uv n2,uv kd]):
  ∃s:Ss,GoodS H s∧XK.run (GK H) (.call false 40) [uv n1,uv n2,uv n3,uv n4]=some (.agg s.cells):=by
 obtain⟨m,hm,hg⟩:=hm
 have h:=u8_rng h4
 have e:IntKind.i64.wrap (1+(IntKind.i64.wrap n4).tmod 2)=1+n4%2:=by rw[wr (z:=n4) (by omega) (by omega),tm h.1,wr (by omega) (by omega)]
 refine⟨m.ses (1+n4%2),hg _ (by omega),r_callB (r:=tagN (.mk .agg [.mk .nrmC [.mk (.cell 0 6) [.t 4]], .mk .nrmC [.mk (.cell 1 6) [.t 4]], .mk .nrmC [.mk (.cell 2 6) [.t 4]], .mk .nrmC [.mk (.cell 3 6) [.t 4]], .mk .nrmC [.mk (.cell 4 6) [.t 4]], .mk .nrmC [.mk (.cell 5 6) [.t 4]], .mk .nrmC [.t 5]]) (.agg (m.ses (1+n4%2)).cells)) (by_term hF ok40 ?_) bare_tagA rfl⟩
 rw[tx40]
 simp[-r_ext,ha,hc,hx,hm,e]
 rfl
theorem l13(hF:Fr H){n1 n2 n3 n4:Int}{s:Ss}(h:XK.run (GK H) (.call false 40) [uv n1,uv n2,uv n3,uv n4]=some (.agg s.cells)):XK.run (GK H) (.call false 13) [.agg [uv n1,uv n2,uv n3,uv n4]]=some (.agg s.cells):=by
 refine r_callB (r:=tagN (.mk .nrm [.t 1]) (.agg s.cells)) (by_term hF ok13 ?_) bare_tagA rfl
 rw[tx13]
 have c0:XK.run (GK H) (.cell 0 4) [.agg [uv n1,uv n2,uv n3,uv n4]]=some (uv n1):=rfl
 have c1:XK.run (GK H) (.cell 1 4) [.agg [uv n1,uv n2,uv n3,uv n4]]=some (uv n2):=rfl
 have c2:XK.run (GK H) (.cell 2 4) [.agg [uv n1,uv n2,uv n3,uv n4]]=some (uv n3):=rfl
 have c3:XK.run (GK H) (.cell 3 4) [.agg [uv n1,uv n2,uv n3,uv n4]]=some (uv n4):=rfl
 simp[-r_ext,c0,c1,c2,c3,h]
 exact Ss.all s
theorem of_ok(hF:Fr H)(hM:Mvs H){n1 n2 n3 n4:Int}(h1:u8 n1=true)(h2:u8 n2=true)(h3:u8 n3=true)(h4:u8 n4=true): ∃s:Ss,GoodS H s∧XK.run (GK H) (.call false 13) [.agg [uv n1,uv n2,uv n3,uv n4]]=some (.agg s.cells):=by
 have r1:=u8_rng h1
 have r3:=u8_rng h3
 have e1:n1.tmod 4=n1%4:=tm r1.1
 have e3:n3.tmod 5=n3%5:=tm r3.1
 have c1:n1%4=0∨n1%4=1∨n1%4=2∨n1%4=3:=by omega
 have c3:n3%5=0∨n3%5=1∨n3%5=2∨n3%5=3∨n3%5=4:=by omega
 have key: ∃s:Ss,GoodS H s∧XK.run (GK H) (.call false 40) [uv n1,uv n2,uv n3,uv n4]=some (.agg s.cells):=by
  rcases c1 with c1|c1|c1|c1<;>rcases c3 with c3|c3|c3|c3|c3
  ·exact l40 hF h4 (e1.trans c1) (e3.trans c3) rfl (l78_00 hF hM h2)
  ·exact l40 hF h4 (e1.trans c1) (e3.trans c3) rfl (l78_01 hF hM h2)
  ·exact l40 hF h4 (e1.trans c1) (e3.trans c3) rfl (l78_02 hF hM h2)
  ·exact l40 hF h4 (e1.trans c1) (e3.trans c3) rfl (l78_03 hF hM h2)
  ·exact l40 hF h4 (e1.trans c1) (e3.trans c3) rfl (l78_07 hF hM h2)
  ·exact l40 hF h4 (e1.trans c1) (e3.trans c3) rfl (l78_10 hF hM h2)
  ·exact l40 hF h4 (e1.trans c1) (e3.trans c3) rfl (l78_11 hF hM h2)
  ·exact l40 hF h4 (e1.trans c1) (e3.trans c3) rfl (l78_12 hF hM h2)
  ·exact l40 hF h4 (e1.trans c1) (e3.trans c3) rfl (l78_13 hF hM h2)
  ·exact l40 hF h4 (e1.trans c1) (e3.trans c3) rfl (l78_17 hF hM h2)
  ·exact l40 hF h4 (e1.trans c1) (e3.trans c3) rfl (l78_20 hF hM h2)
  ·exact l40 hF h4 (e1.trans c1) (e3.trans c3) rfl (l78_21 hF hM h2)
  ·exact l40 hF h4 (e1.trans c1) (e3.trans c3) rfl (l78_22 hF hM h2)
  ·exact l40 hF h4 (e1.trans c1) (e3.trans c3) rfl (l78_23 hF hM h2)
  ·exact l40 hF h4 (e1.trans c1) (e3.trans c3) rfl (l78_27 hF hM h2)
  ·exact l40 hF h4 (e1.trans c1) (e3.trans c3) rfl (l78_30 hF hM h2)
  ·exact l40 hF h4 (e1.trans c1) (e3.trans c3) rfl (l78_31 hF hM h2)
  ·exact l40 hF h4 (e1.trans c1) (e3.trans c3) rfl (l78_32 hF hM h2)
  ·exact l40 hF h4 (e1.trans c1) (e3.trans c3) rfl (l78_33 hF hM h2)
  ·exact l40 hF h4 (e1.trans c1) (e3.trans c3) rfl (l78_37 hF hM h2)
 obtain⟨s,hs,h⟩:=key
 exact⟨s,hs,l13 hF h⟩
end Ty
end
section
namespace Ty
noncomputable abbrev PP:=Tryz.prog
def f45s : Array Field := #[{ name := "Tables", type := 5, offset := 0, embedded := false, tag := "", pkgPath := "", byteOffset := 0 }, { name := "Rounds", type := 5, offset := 1, embedded := false, tag := "", pkgPath := "", byteOffset := 1 }, { name := "Kind", type := 5, offset := 2, embedded := false, tag := "", pkgPath := "", byteOffset := 2 }, { name := "Boards", type := 5, offset := 3, embedded := false, tag := "", pkgPath := "", byteOffset := 3 }]
def f112s : Array Field := #[{ name := "At", type := 61, offset := 0, embedded := false, tag := "", pkgPath := "", byteOffset := 0 }, { name := "Version", type := 5, offset := 1, embedded := false, tag := "", pkgPath := "", byteOffset := 2 }, { name := "Turned", type := 4, offset := 2, embedded := false, tag := "", pkgPath := "", byteOffset := 3 }, { name := "X", type := 110, offset := 3, embedded := false, tag := "", pkgPath := "", byteOffset := 4 }]
def f110s : Array Field := #[{ name := "Kind", type := 5, offset := 0, embedded := false, tag := "", pkgPath := "", byteOffset := 0 }, { name := "Field", type := 5, offset := 1, embedded := false, tag := "", pkgPath := "", byteOffset := 1 }, { name := "Award", type := 5, offset := 2, embedded := false, tag := "", pkgPath := "", byteOffset := 2 }, { name := "Bids", type := 107, offset := 3, embedded := false, tag := "", pkgPath := "", byteOffset := 3 }, { name := "Tricks", type := 107, offset := 7, embedded := false, tag := "", pkgPath := "", byteOffset := 7 }, { name := "Weights", type := 108, offset := 11, embedded := false, tag := "", pkgPath := "", byteOffset := 11 }]
theorem u45:PP.underlying 45=some (.struct f45s):=by kernel_rfl
theorem u46:PP.underlying 46=some (.slice 112):=by kernel_rfl
theorem u112:PP.underlying 112=some (.struct f112s):=by kernel_rfl
theorem u110:PP.underlying 110=some (.struct f110s):=by kernel_rfl
theorem u107:PP.underlying 107=some (.array 4 5):=by kernel_rfl
theorem u108:PP.underlying 108=some (.array 3 5):=by kernel_rfl
theorem u5:PP.underlying 5=some (.int .u8):=by kernel_rfl
theorem u61:PP.underlying 61=some (.int .u16):=by kernel_rfl
theorem u4:PP.underlying 4=some .bool:=by kernel_rfl
theorem u3:PP.underlying 3=some (.int .i64):=by kernel_rfl
theorem c5:PP.cellsOf 5=1:=by kernel_rfl
theorem c4:PP.cellsOf 4=1:=by kernel_rfl
theorem c61:PP.cellsOf 61=1:=by kernel_rfl
theorem c45:PP.cellsOf 45=4:=by kernel_rfl
theorem c110:PP.cellsOf 110=14:=by kernel_rfl
theorem c107:PP.cellsOf 107=4:=by kernel_rfl
theorem c108:PP.cellsOf 108=3:=by kernel_rfl
theorem c112:PP.cellsOf 112=17:=by kernel_rfl
variable {H : FP}
theorem ty_st{n t:Nat}{fs:Array Field}{ds:List D}(hu:PP.underlying t=some (.struct fs))(h:HasTy PP (n+1) t ds):ds.length=PP.cellsOf t∧ ∀f∈fs.toList,HasTy PP n f.type ((ds.drop f.offset).take (PP.cellsOf f.type)):=by
 unfold HasTy at h;rw[hu]at h;exact h
theorem ty_ar{n t m e:Nat}{ds:List D}(hu:PP.underlying t=some (.array m e))(h:HasTy PP (n+1) t ds):ds.length=PP.cellsOf t∧ ∀i,i<m→HasTy PP n e ((ds.drop (i*PP.cellsOf e)).take (PP.cellsOf e)):=by
 unfold HasTy at h;rw[hu]at h;exact h
theorem ty_in{n t:Nat}{k:IntKind}{ds:List D}(hu:PP.underlying t=some (.int k))(h:HasTy PP (n+1) t ds): ∃z,ds= [.v (.int k z)]∧(Lit.int k z).wf=true:=by
 unfold HasTy at h;rw[hu]at h;exact h
theorem ty_bo{n t:Nat}{ds:List D}(hu:PP.underlying t=some .bool)(h:HasTy PP (n+1) t ds): ∃b,ds= [bv b]:=by
 unfold HasTy at h;rw[hu]at h;exact h
theorem ty_sl{n t e:Nat}{ds:List D}(hu:PP.underlying t=some (.slice e))(h:HasTy PP (n+1) t ds): ∃es,ds= [.list es]∧es.length≤maxLen∧ ∀c∈es,HasTy PP n e c:=by
 unfold HasTy at h;rw[hu]at h;exact h
theorem ty_u8{n:Nat}{d:D}(h:HasTy PP (n+1) 5 [d]): ∃z,d=uv z∧u8 z=true:=by
 obtain⟨z,h1,h2⟩:=ty_in u5 h
 simp only[List.cons.injEq,and_true]at h1
 refine⟨z,h1, ?_⟩
 simp[Lit.wf]at h2
 have e1:IntKind.u8.min=0:=rfl
 have e2:IntKind.u8.max=255:=rfl
 rw[e1,e2]at h2
 exact u8_of h2.1 (by omega)
theorem len4{l:List D}(h:l.length=4): ∃a b c d,l= [a,b,c,d]:=by
 match l,h with
 | [a,b,c,d],_=>exact⟨a,b,c,d,rfl⟩
theorem ty_num{n:Nat}{ds:List D}(h:HasTy PP (n+2) 45 ds): ∃a b c d,ds= [uv a,uv b,uv c,uv d]∧u8 a=true∧u8 b=true∧u8 c=true∧u8 d=true:=by
 obtain⟨h1,h2⟩:=ty_st u45 h
 rw[c45]at h1
 obtain⟨a,b,c,d,rfl⟩:=len4 h1
 have g: ∀i (f:Field),f45s.toList[i]?=some f→HasTy PP (n+1) f.type (([a,b,c,d].drop f.offset).take (PP.cellsOf f.type)):=fun i f hf=>h2 f (Lz hf)
 have g0:=g 0 _ rfl
 have g1:=g 1 _ rfl
 have g2:=g 2 _ rfl
 have g3:=g 3 _ rfl
 rw[show PP.cellsOf _=1 from c5]at g0 g1 g2 g3
 obtain⟨z0,rfl,y0⟩:=ty_u8 g0
 obtain⟨z1,rfl,y1⟩:=ty_u8 g1
 obtain⟨z2,rfl,y2⟩:=ty_u8 g2
 obtain⟨z3,rfl,y3⟩:=ty_u8 g3
 exact⟨z0,z1,z2,z3,rfl,y0,y1,y2,y3⟩
theorem ty_bits{n t m:Nat}{ds:List D}(hu:PP.underlying t=some (.array m 5))(hc:PP.cellsOf t=m)(h:HasTy PP (n+2) t ds):ds.length=m∧ ∀(i:Nat) (d:D),ds[i]?=some d→ ∃z,d=uv z∧u8 z=true:=by
 obtain⟨h1,h2⟩:=ty_ar hu h
 rw[hc]at h1
 refine⟨h1,fun i d hd=> ?_⟩
 have hi:i<m:=by rw[←h1];exact(Gz.1 hd).1
 have h3:=h2 i hi
 rw[c5,Nat.mul_one]at h3
 have:(ds.drop i).take 1= [d]:=by
  rw[List.take_one,List.head?_drop,hd];rfl
 rw[this]at h3
 exact ty_u8 h3
theorem ty_sm{n:Nat}{ds:List D}(h:HasTy PP (n+3) 110 ds): ∃x:Sm,ds=x.cells∧x.ok=true:=by
 obtain⟨h1,h2⟩:=ty_st u110 h
 rw[c110]at h1
 have g: ∀i (f:Field),f110s.toList[i]?=some f→HasTy PP (n+2) f.type ((ds.drop f.offset).take (PP.cellsOf f.type)):=fun i f hf=>h2 f (Lz hf)
 match ds,h1 with
 | [a0,a1,a2,a3,a4,a5,a6,a7,a8,a9,a10,a11,a12,a13],_=>
  have g0:=g 0 _ rfl
  have g1:=g 1 _ rfl
  have g2:=g 2 _ rfl
  have g3:=g 3 _ rfl
  have g4:=g 4 _ rfl
  have g5:=g 5 _ rfl
  rw[show PP.cellsOf _=1 from c5]at g0 g1 g2
  rw[show PP.cellsOf _=4 from c107]at g3 g4
  rw[show PP.cellsOf _=3 from c108]at g5
  obtain⟨z0,rfl,y0⟩:=ty_u8 g0
  obtain⟨z1,rfl,y1⟩:=ty_u8 g1
  obtain⟨z2,rfl,y2⟩:=ty_u8 g2
  have b3:=(ty_bits (n:=n) u107 c107 g3).2
  have b4:=(ty_bits (n:=n) u107 c107 g4).2
  have b5:=(ty_bits (n:=n) u108 c108 g5).2
  obtain⟨z3,rfl,y3⟩:=b3 0 _ rfl
  obtain⟨z4,rfl,y4⟩:=b3 1 _ rfl
  obtain⟨z5,rfl,y5⟩:=b3 2 _ rfl
  obtain⟨z6,rfl,y6⟩:=b3 3 _ rfl
  obtain⟨z7,rfl,y7⟩:=b4 0 _ rfl
  obtain⟨z8,rfl,y8⟩:=b4 1 _ rfl
  obtain⟨z9,rfl,y9⟩:=b4 2 _ rfl
  obtain⟨z10,rfl,y10⟩:=b4 3 _ rfl
  obtain⟨z11,rfl,y11⟩:=b5 0 _ rfl
  obtain⟨z12,rfl,y12⟩:=b5 1 _ rfl
  obtain⟨z13,rfl,y13⟩:=b5 2 _ rfl
  exact⟨⟨z0,z1,z2,z3,z4,z5,z6,z7,z8,z9,z10,z11,z12,z13⟩,rfl,by simp[Sm.ok,y0,y1,y2,y3,y4,y5,y6,y7,y8,y9,y10,y11,y12,y13]⟩
theorem ty_u16{n:Nat}{d:D}(h:HasTy PP (n+1) 61 [d]): ∃z,d=u16v z∧0≤z∧z<65536:=by
 obtain⟨z,h1,h2⟩:=ty_in u61 h
 simp only[List.cons.injEq,and_true]at h1
 refine⟨z,h1, ?_⟩
 simp[Lit.wf]at h2
 have e1:IntKind.u16.min=0:=rfl
 have e2:IntKind.u16.max=65535:=rfl
 rw[e1,e2]at h2
 exact⟨h2.1,by omega⟩
theorem ty_it{n:Nat}{ds:List D}(h:HasTy PP (n+4) 112 ds): ∃i:It,ds=i.cells∧i.ok=true:=by
 obtain⟨h1,h2⟩:=ty_st u112 h
 rw[c112]at h1
 have g: ∀i (f:Field),f112s.toList[i]?=some f→HasTy PP (n+3) f.type ((ds.drop f.offset).take (PP.cellsOf f.type)):=fun i f hf=>h2 f (Lz hf)
 match ds,h1 with
 |a0::a1::a2::r,h1=>
  have g0:=g 0 _ rfl
  have g1:=g 1 _ rfl
  have g2:=g 2 _ rfl
  have g3:=g 3 _ rfl
  rw[show PP.cellsOf _=1 from c61]at g0
  rw[show PP.cellsOf _=1 from c5]at g1
  rw[show PP.cellsOf _=1 from c4]at g2
  rw[show PP.cellsOf _=14 from c110]at g3
  obtain⟨z0,rfl,y0,y0'⟩:=ty_u16 g0
  obtain⟨z1,rfl,y1⟩:=ty_u8 g1
  obtain⟨z2,hz2⟩:=ty_bo u4 g2
  have hz2:a2=bv z2:=by simpa using hz2
  subst hz2
  have e3:(List.drop 3 (u16v z0::uv z1::bv z2::r)).take 14=r:=List.take_of_length_le (by simp at h1⊢;omega)
  replace g3:HasTy PP (n+3) 110 ((List.drop 3 (u16v z0::uv z1::bv z2::r)).take 14):=g3
  rw[e3]at g3
  obtain⟨x,hx,hxo⟩:=ty_sm (n:=n) g3
  subst hx
  exact⟨⟨z0,z1,z2,x⟩,rfl,by simp[It.ok,y0,y0',y1,hxo]⟩
theorem args3{P:Program}{n t1 t2 t3:Nat}: ∀{Ds:List D},ArgsTy P n [t1,t2,t3] Ds→ ∃a b c,Ds= [a,b,c]∧ArgTy P n t1 a∧ArgTy P n t2 b∧ArgTy P n t3 c
 | [],h=>h.elim
 | [_],h=>h.2.elim
 | [_,_],h=>h.2.2.elim
 | [a,b,c],h=>⟨a,b,c,rfl,h.1,h.2.1,h.2.2.1⟩
 |_::_::_::_::_,h=>h.2.2.2.elim
theorem args9{Ds:List D}(h:ArgsTy PP 6 [45,46,3] Ds): ∃(n1 n2 n3 n4:Int) (l:List It) (k:Int),Ds= [.agg [uv n1,uv n2,uv n3,uv n4], .list (l.map It.cells),iv k]∧u8 n1=true∧u8 n2=true∧u8 n3=true∧u8 n4=true∧ ∀i∈l,It.ok i=true:=by
 obtain⟨a,b,c,rfl,h1,h2,h3⟩:=args3 h
 ·unfold ArgTy at h1 h2 h3
  rw[u45]at h1
  rw[u46]at h2
  rw[u3]at h3
  obtain⟨ds,rfl,h1⟩:=h1
  obtain⟨n1,n2,n3,n4,rfl,y1,y2,y3,y4⟩:=ty_num (n:=4) h1
  obtain⟨es,he0,hml,hes⟩:=ty_sl (n:=5) u46 h2
  have he:b= .list es:=by simpa using he0
  clear he0
  obtain⟨k,hk,_⟩:=ty_in (n:=5) u3 h3
  have hk:c=iv k:=by simpa using hk
  obtain⟨l,hl,hlo⟩: ∃l:List It,es=l.map It.cells∧ ∀i∈l,i.ok=true:=by
   clear he h2
   clear hml
   induction es with
   |nil=>exact⟨[],rfl,fun i hi=>by cases hi⟩
   |cons e r ih=>
    obtain⟨l,h4,h5⟩:=ih fun c hc=>hes c (Cz _ hc)
    obtain⟨i,h6,h7⟩:=ty_it (n:=1) (hes e (List.mem_cons_self ..))
    exact⟨i::l,by rw[List.map_cons,←h6,←h4],fun j hj=>by
     rcases List.mem_cons.1 hj with rfl|hj
     ·exact h7
     ·exact h5 j hj⟩
  exact⟨n1,n2,n3,n4,l,k,by rw[he,hk,hl],y1,y2,y3,y4,hlo⟩
theorem wrong_vcp(hH:Hd H)(hM:Mvs H)(h11:XK.run (GK H) (.call false 11) []=some (bv true))(hS:Sound PP (env0 H)){Ds:List D}(h:ArgsTy PP 6 [45,46,3] Ds):VCp PP 9 Ds (bv true):=by
 obtain⟨n1,n2,n3,n4,l,k,rfl,y1,y2,y3,y4,hl⟩:=args9 h
 obtain⟨s,hs,h13⟩:=of_ok hH.fr hM y1 y2 y3 y4
 exact((GG_sound (C:=cx) (N:=10000) rfl hS mixedP).p 9 _ _ (by decide) (l9 hH h11 hs h13 l hl k)).1
end Ty
end
noncomputable section
def takeG:List Nat→List Known→List Known
 | [],_=> []
 |g::r,es=>match es.drop g with
  |e::s=>e::takeG r s
  | []=> []
theorem takeG_mem: ∀{gs:List Nat} {l:List Known} {e:Known},e∈takeG gs l→e∈l
 | [],_,_,h=>by cases h
 |g::r,l,e,h=>by
  unfold takeG at h
  split at h
  ·rename_i a s hd
   have hs: ∀x,x∈a::s→x∈l:=fun x hx=>by rw[←hd]at hx;exact List.mem_of_mem_drop hx
   rcases List.mem_cons.1 h with rfl|h
   ·exact hs _ (List.mem_cons_self ..)
   ·exact hs _ (Cz _ (takeG_mem h))
  ·cases h
abbrev Sel:=List (Nat×List Known×List Nat)
def pickK:Sel→KT
 | []=> []
 |(f,l,gs)::r=>(f,takeG gs l)::pickK r
def KOK(P:Program)(f:Nat)(ds:List D)(r:D):Prop:=(f<1000000∧VCr P f ds r)∨ ∃e g es,g<1000000∧f=1000001000000+(1000000*e+g)∧r= .list es∧VCa P g e ds es
def KT.AOK(P:Program)(l:KT):Prop:= ∀p∈l,∀e∈p.2,KOK P p.1 e.ds e.r
def Done(P:Program)(f:Nat)(l:List Known):Prop:= ∀e∈l,KOK P f e.ds e.r
def DoneS(P:Program):Sel→Prop
 | []=>True
 |(f,l,_)::r=>Done P f l∧DoneS P r
theorem DoneS.nil{P:Program}:DoneS P []:=trivial
theorem DoneS.cons{P:Program}{f:Nat}{l:List Known}{gs:List Nat}{r:Sel}(h:Done P f l)(k:DoneS P r):DoneS P ((f,l,gs)::r):=⟨h,k⟩
theorem pick_ok{P:Program}: ∀{s:Sel},DoneS P s→(pickK s).AOK P
 | [],_=>fun p hp=>by cases hp
 |(f,l,gs)::r,h=>fun p hp e he=>by
  rcases List.mem_cons.1 hp with rfl|hp
  ·exact h.1 e (takeG_mem he)
  ·exact pick_ok h.2 p hp e he
def beqKr(a:List D):List D→Bool:= @List.rec D (fun _=>List D→Bool) (fun b=>b.casesOn true fun _ _=>false) (fun a _ ih b=>b.casesOn false fun y s=>ifk (ih s) (beqK a y) false) a
theorem beqKr_eq: ∀{a b:List D},beqKr a b=true→a=b
 | [],[],_=>rfl
 | [],_::_,h=>by cases h
 |_::_,[],h=>by cases h
 |x::r,y::s,h=>by
  replace h:ifk (beqKr r s) (beqK x y) false=true:=h
  rw[beqKr_eq (and_ifk h).1,beqK_eq (and_ifk h).2]
def scanK(ds:List D)(z:Option D)(es:List Known):Option D:= @List.rec Known (fun _=>Option D) z (fun e _ ih=>ifk (beqKr e.ds ds) (some e.r) ih) es
theorem scanK_eq{ds:List D}{z:Option D}{d:D}: ∀{es:List Known},scanK ds z es=some d→(∃e∈es,e.ds=ds∧e.r=d)∨z=some d
 | [],h=> .inr h
 |e::r,h=>by
  replace h:ifk (beqKr e.ds ds) (some e.r) (scanK ds z r)=some d:=h
  cases hb:beqKr e.ds ds with
  |true=>rw[hb]at h;cases h;exact .inl ⟨e,List.mem_cons_self ..,beqKr_eq hb,rfl⟩
  |false=>rw[hb]at h;exact(scanK_eq h).imp (fun⟨e,he,k⟩=>⟨e,Cz _ he,k⟩) id
def knK(l:KT)(H:FP)(f:Nat)(ds:List D):Option D:= @List.rec (Nat×List Known) (fun _=>Option D) (H f ds) (fun p _ ih=>ifk (Nat.beq p.1 f) (scanK ds (H f ds) p.2) ih) l
theorem knK_eq{H:FP}{f:Nat}{ds:List D}{d:D}: ∀{l:KT},knK l H f ds=some d→(∃p∈l,p.1=f∧ ∃e∈p.2,e.ds=ds∧e.r=d)∨H f ds=some d
 | [],h=> .inr h
 |p::r,h=>by
  replace h:ifk (Nat.beq p.1 f) (scanK ds (H f ds) p.2) (knK r H f ds)=some d:=h
  cases hb:Nat.beq p.1 f with
  |true=>rw[hb]at h;exact(scanK_eq h).imp (fun⟨e,he⟩=>⟨p,List.mem_cons_self ..,Nat.eq_of_beq_eq_true hb,e,he⟩) id
  |false=>rw[hb]at h;exact(knK_eq h).imp (fun⟨q,hq,k⟩=>⟨q,Cz _ hq,k⟩) id
theorem knK_sound{P:Program}{H:FP}{l:KT}(hH:Sound P (env0 H))(hl:l.AOK P):Sound P (env0 (knK l H)):=by
 have key: ∀{f:Nat} {ds:List D} {d:D},knK l H f ds=some d→KOK P f ds d∨H f ds=some d:=fun{f ds d} h=>(knK_eq h).imp (fun⟨p,hp,h1,e,he,h2,h3⟩=>by
  subst h1 h2 h3;exact hl p hp e he) id
 refine⟨fun f ds d hlt h=> ?_,fun k f ds r hlt h6 h=> ?_,fun e f ds r hlt h=> ?_⟩
 ·rcases key (show knK l H f ds=some d from h)with(h|⟨e,g,es,_,h,_⟩)|h
  ·exact h.2
  ·omega
  ·exact hH.p f ds d hlt h
 ·rcases key (show knK l H (1000000+(1000000*k+f)) ds=some r from h)with(h|⟨e,g,es,_,h,_⟩)|h
  ·omega
  ·omega
  ·exact hH.e k f ds r hlt h6 h
 ·obtain⟨d,hd,rfl⟩:=Mz.1 (show(knK l H (1000001000000+(1000000*e+f)) ds).map _=some r from h)
  rcases key hd with(hd|⟨e',g,es,hg,hk,rfl,hv⟩)|hd
  ·omega
  ·have he:e=e':=by omega
   have hf:f=g:=by omega
   subst he hf
   exact⟨es,rfl,hv⟩
  ·exact hH.q e f ds _ hlt (show Option.map _ _=_ by rw[hd];rfl)
def eqRK(a b:D):Bool:=ifk a.isOwn (ifk b.isOwn (beqK a.bare b.bare) false) (beqK a b)
theorem eqRK_eq{a b:D}(h:eqRK a b=true):a=b:=by
 have own: ∀{x:D},x.isOwn=true→x=x.bare.own:=fun{x} hx=>by
  unfold D.isOwn at hx
  split at hx
  ·rfl
  ·cases hx
 unfold eqRK at h
 cases ha:a.isOwn with
 |true=>
  rw[ha]at h
  have h:=and_ifk (show ifk b.isOwn (beqK a.bare b.bare) false=true from h)
  rw[own ha,own h.1,beqK_eq h.2]
 |false=>rw[ha]at h;exact beqK_eq h
def chkK(G:FP)(f:Nat)(l:List Known):Bool:= @List.rec Known (fun _=>Bool) true (fun e _ ih=>ifk (@Option.rec D (fun _=>Bool) false (fun d=>eqRK d e.r) (G f e.ds)) ih false) l
theorem chkK_eq{G:FP}{f:Nat}: ∀{l:List Known},chkK G f l=true→ ∀e∈l,G f e.ds=some e.r
 | [],_,e,he=>by cases he
 |e::r,h,e',he=>by
  replace h:ifk (@Option.rec D (fun _=>Bool) false (fun d=>eqRK d e.r) (G f e.ds)) (chkK G f r) false=true:=h
  rcases List.mem_cons.1 he with rfl|he
  ·have h:=(and_ifk h).1
   cases hg:G f e'.ds with
   |none=>rw[hg]at h;cases h
   |some d=>rw[hg]at h;rw[eqRK_eq h]
  ·exact chkK_eq (and_ifk h).2 e' he
def chunk(G:FP)(f lo n:Nat)(l:List Known):Bool:=ifk (Nat.blt f 1000000) (chkK G f ((l.drop lo).take n)) false
theorem chunk_sound{P:Program}{C:Cx}{H:FP}{N k:Nat}{r:Tr}(hP:C.P=P)(hH:Sound P (env0 H))(hm:P.follows .mixedOrders=true)(hr:r.All C){s:Sel}(hs:DoneS P s){f lo n:Nat}{l:List Known}
  (h:chunk (evK r.get (knK (pickK s) H) N k) f lo n l=true):Done P f ((l.drop lo).take n):=fun e he=>by
 have h2:f<1000000:=by simpa[Nat.blt_eq]using(and_ifk h).1
 have h3:=chkK_eq (and_ifk h).2 e he
 rw[evK_eq]at h3
 exact .inl ⟨h2,(Gs_sound hP (knK_sound hH (pick_ok hs)) hm k).p f e.ds e.r h2 (evG_Gs hr k _ _ _ h3)⟩
theorem Done.join{P:Program}{f lo n:Nat}{l:List Known}(h:Done P f ((l.drop lo).take n))(k:Done P f (l.drop (lo+n))):Done P f (l.drop lo):=fun e he=>by
 rw[←List.take_append_drop n (l.drop lo),List.mem_append,List.drop_drop]at he
 exact he.elim (h e) (k e)
theorem Done.fin{P:Program}{f lo n:Nat}{l:List Known}(h:Done P f ((l.drop lo).take n))(k:Nat.ble l.length (lo+n)=true):Done P f (l.drop lo):=fun e he=>by
 rw[List.take_of_length_le (by have:=Nat.le_of_ble_eq_true k;simp;omega)]at h
 exact h e he
end
section
open Go.RowKit Go.Sort
namespace Ty
theorem vcr_empty{P:Program}{f:Nat}{r:D}(hb:HasBody P f)(hr:r.isOwn=false)(h1:VCp P f [.nil] r)(h2:VCp P f [.mt] r):VCr P f [.list []] r:=by
 refine VCp.toR ?_ hr
 have key: ∀{w:World} {pr:Prot} {cargs:Array Value},Reps w pr noTok cargs.toList [.list []]→Reps w pr noTok cargs.toList [.nil]∨Reps w pr noTok cargs.toList [.mt]:=fun{w pr cargs} h=>by
  obtain⟨l⟩:=cargs
  match l,h with
  | [a],⟨h,_⟩=>
   generalize hd:D.list []=d at h
   cases h<;>first|(cases hd;done)|skip
   ·exact .inl ⟨.nil,trivial⟩
   ·exact .inr ⟨.mt,trivial⟩
   ·injection hd with hd
    subst hd
    exact .inr ⟨.mt,trivial⟩
 exact .inr ⟨hb,fun w pr cargs hpr hG h=>(key h).elim (h1.calls hb hpr hG) (h2.calls hb hpr hG)⟩
theorem fr_n15: ∀ds,handE 15 ds=none:=fun ds=>by
 unfold handE handH bitsH
 rw[if_neg (by omega),if_neg (by omega),if_neg (by omega),if_neg (by omega)]
theorem body15:HasBody Tryz.prog 15:=⟨Tryz.f15,Tryz.func15,rfl,by kernel_rfl⟩
theorem set_nil:VCr Tryz.prog 15 [.list []] (.list []):=by
 have e43:XK.run (GK handE) (.ecall 0 43 33) [.list [], .clo 44 []]=some (.tup [.tup [], .list []]):=by
  have h1:GK handE 1000043 [.list [], .clo 44 []]=some (.tup [.tup [], .list []]):=GG_hand rfl
  show(if([.list [], .clo 44 []].set 0 D.nil).all D.noT=true∧43<1000000 then(GK handE (1000000+(1000000*0+43)) [.list [], .clo 44 []]).bind _ else none)=_
  rw[if_pos ⟨rfl,by omega⟩,show 1000000+(1000000*0+43)=1000043 from rfl,h1,Oz]
  rfl
 have k6:=i45 fr_handE []
 simp only[List.map_nil]at k6
 have k5:(D.tup []).noT=true:=rfl
 have core: ∀d:D,d.noT=true→(XK.run (GK handE) (.pk (.snil false)) [d, .nil]=some (bv true)∨XK.run (GK handE) (.pk (.snil false)) [d, .nil]=some (bv false)∧XK.run (GK handE) (.app 33) [.list [],d]=some (.list []))→VCp Tryz.prog 15 [d] (.list []):=fun d hd hs=>by
  have h:GK handE 15 [d]=some (D.own (.list [])):=by
   refine by_at ok15 (fr_n15 _) ?_ (hn:=by simp[hd])
   rw[tx15]
   have k2:XK.run (GK handE) (.lit 33 0 [] []) []=some (.list []):=rfl
   rcases hs with h1|⟨h1,h2⟩
   ·simp[h1,e43,k5,k6]
    rfl
   ·simp[h1,k2,h2,e43,k5,k6]
    rfl
  exact((GG_sound (C:=cx) (N:=10000) rfl handE_sound mixedP).p 15 _ _ (by decide) h).1
 exact vcr_empty body15 rfl (core .nil rfl (.inl rfl)) (core .mt rfl (.inr ⟨rfl,rfl⟩))
def handS:FP:=fun f ds=>if f=15 then(match ds with
  | [.list []]=>some (.list [])
  |_=>none)else handE f ds
theorem handS_sound:Sound Tryz.prog (env0 handS) where
 p f ds d hlt h:=by
  replace h:handS f ds=some d:=h
  unfold handS at h
  split at h
  ·rename_i hf
   subst hf
   split at h
   ·cases h;exact set_nil
   ·cases h
  ·exact handE_sound.p f ds d hlt h
 e k f ds r hf h6 h:=by
  replace h:handS (1000000+(1000000*k+f)) ds=some r:=h
  unfold handS at h
  rw[if_neg (by omega)]at h
  exact handE_sound.e k f ds r hf h6 h
 q e f ds r hf h:=by
  obtain⟨d,hd,rfl⟩:=Mz.1 (show(handS (1000001000000+(1000000*e+f)) ds).map _=some r from h)
  unfold handS at hd
  rw[if_neg (by omega)]at hd
  exact handE_sound.q e f ds _ hf (show Option.map _ _=_ by rw[hd];rfl)
theorem knK_miss{H:FP}{f:Nat}{ds:List D}: ∀{K:KT},(∀p∈K,p.1≠f)→knK K H f ds=H f ds
 | [],_=>rfl
 |p::r,h=>by
  have hb:Nat.beq p.1 f=false:=by
   cases hb:Nat.beq p.1 f with
   |false=>rfl
   |true=>exact absurd (Nat.eq_of_beq_eq_true hb) (h p (List.mem_cons_self ..))
  show ifk (Nat.beq p.1 f) (scanK ds (H f ds) p.2) (knK r H f ds)=_
  rw[hb]
  exact knK_miss fun q hq=>h q (Cz _ hq)
theorem hd_kn{K:KT}(hK:K.all (fun p=> [54,90,166,167,168,123,11].contains p.1)=true):Hd (knK K handS):=by
 have hK:=Tz.1 hK
 have miss: ∀f,[54,90,166,167,168,123,11].contains f=false→ ∀p∈K,p.1≠f:=fun f hf p hp e=>by
  have:=hK p hp
  rw[e,hf]at this;cases this
 refine⟨?_,fun c es=> ?_,fun f ds hlt hf=> ?_,fun es h1 h2 h3=> ?_,fun es h1 h2=> ?_⟩
 ·rw[knK_miss (miss 15 (by decide))];rfl
 ·rw[knK_miss (miss 15 (by decide))];rfl
 ·have hf2: [54,90,166,167,168,123,11].contains f=false:=by
   simp[handF]at hf⊢
   omega
  rw[knK_miss (miss f hf2)]
  have h15:f≠15:=by intro e;subst e;simp[handF]at hf
  show(if f=15 then _ else handE f ds)=none
  rw[if_neg h15]
  exact fr_handE f ds hlt hf
 ·rw[knK_miss (miss _ (by decide))]
  show(if 1000057=15 then _ else handE 1000057 _)=_
  rw[if_neg (by omega)]
  show(if 1000057=1000043 then _ else handH 1000057 _)=_
  rw[if_neg (by omega)]
  show(if es.isEmpty=false∧es.all goodK=true∧es.length<65536 then some (D.tup [.tup [], .list (sortS (ltD cfK) es)])else none)=_
  rw[if_pos ⟨h1,h2,h3⟩]
 ·rw[knK_miss (miss _ (by decide))]
  show(if 1000043=15 then _ else handE 1000043 _)=_
  rw[if_neg (by omega)]
  show(if es.all goodE=true∧es.length<65536 then some (D.tup [.tup [], .list (sortS (ltD cfE) es)])else none)=_
  rw[if_pos ⟨h1,h2⟩]
end Ty
end
noncomputable section
open Go.RowKit Go.Sort
namespace Ty
variable {H : FP}
def rwOf:List D→Rw
 | [.v (.int .i64 a), .v (.int .i64 b), .v (.int .i64 c), .v (.int .i64 d), .v (.int .i64 e)]=>⟨a,b,c,d,e⟩
 |_=>⟨0,0,0,0,0⟩
def mvOf:D→Mv
 | .tup [.agg [.v (.int .i64 a), .v (.int .i64 b), .v (.int .i64 c), .v (.int .i64 d), .v (.int .i64 e), .list rows],_]=>⟨a,b,c,d,e,rows.map rwOf⟩
 |_=>⟨0,0,0,0,0,[]⟩
def is0:Option D→Bool
 |some (.v (.int .i64 0))=>true
 |_=>false
def isT0:Option D→Bool
 |some (.tup [.v (.bool true), .v (.int .i64 0)])=>true
 |_=>false
def goodS(K:KT)(s:Ss):Bool:=
 Nat.blt s.rows.length 9999&&(apartR s.rows&&(is0 (knK K handS 54 [.agg s.cells])&&(!s.keys.isEmpty&&(Nat.blt s.keys.length 65536&&(decide (0≤s.ss*s.bs)&&decide (s.ss*s.bs<10000))))))
def maxI:D:=iv 9223372036854775807
def goodM(K:KT)(c:Nat×List D):Bool:=
 match knK K handS c.1 c.2 with
 |some r=>beqK r.bare (.tup [.agg (mvOf r.bare).cells,iv 0])&&((D.tup [.agg (mvOf r.bare).cells,iv 0]).noT&&(goodS K ((mvOf r.bare).ses 1)&&(goodS K ((mvOf r.bare).ses 2)&&isT0 (knK K handS 90 [.agg (mvOf r.bare).cells,maxI]))))
 |none=>false
theorem is0_eq{o:Option D}(h:is0 o=true):o=some (iv 0):=by
 unfold is0 at h
 split at h
 ·rfl
 ·cases h
theorem isT0_eq{o:Option D}(h:isT0 o=true):o=some (.tup [bv true,iv 0]):=by
 unfold isT0 at h
 split at h
 ·rfl
 ·cases h
def pos54(K:KT):Bool:=K.all fun p=> !Nat.beq p.1 54||p.2.all fun e=>match e.ds with
 | [.agg [_,_,_,_,_,_, .v (.int .i64 z)]]=>decide (0<z)
 |_=>false
theorem n54: ∀ds,handS 54 ds=none:=fun ds=>by
 unfold handS handE handH bitsH
 rw[if_neg (by omega),if_neg (by omega),if_neg (by omega),if_neg (by omega),if_neg (by omega)]
theorem kn54{K:KT}(hK:pos54 K=true){s:Ss}(hb:s.bs≤0):knK K handS 54 [.agg s.cells]=none:=by
 cases h:knK K handS 54 [.agg s.cells]with
 |none=>rfl
 |some d=>
  rcases knK_eq h with⟨p,hp,h1,e,he,h2,_⟩|h
  ·have h3:=Tz.1 hK p hp
   rw[h1]at h3
   have h4:=Tz.1 (show(p.2.all fun e=>match e.ds with
    | [.agg [_,_,_,_,_,_, .v (.int .i64 z)]]=>decide (0<z)
    |_=>false)=true from h3) e he
   rw[h2]at h4
   have h5:decide (0<s.bs)=true:=h4
   simp at h5
   omega
  ·rw[n54]at h;cases h
def Ss.mv(s:Ss):Mv:=⟨s.tb,s.rs,s.ss,s.cp,s.wn,s.rows⟩
theorem ld6{G:FP}{s:Ss}:XK.run G (.pk (.load 6 true)) [.lptr s.cells]=some (.agg s.mv.cells):=nr rfl
theorem ld6'{G:FP}{s:Ss}:XK.run G (.pk (.load 6 true)) [.lptr (s.cells.drop 0)]=some (.agg s.mv.cells):=nr rfl
theorem l54bad{s:Ss}(h0:H 54 [.agg s.cells]=none)(h90:GK H 90 [.agg s.mv.cells,maxI]=some (.tup [bv true,iv 0]))(hb:s.bs≤0):GK H 54 [.agg s.cells]=some (iv 282):=by
 refine by_at ok54 h0 ?_
 rw[tx54]
 have k:XK.run (GK H) (.call false 90) [.agg s.mv.cells,iv 9223372036854775807]=some (.tup [bv true,iv 0]):=r_call h90 rfl rfl
 have hlt:s.bs<1:=by omega
 simp[k,hlt,ld6]
theorem good_s{K:KT}(hK:pos54 K=true){m:Mv}{b:Int}(hb:b=1∨b=2)(h:goodS K (m.ses b)=true)(h90:isT0 (knK K handS 90 [.agg m.cells,maxI])=true):GoodS (knK K handS) (m.ses b):=by
 unfold goodS at h
 simp only[Az,decide_eq_true_eq,Bool.not_eq_true']at h
 obtain⟨h1,h2,h3,h4,h5,h6,h7⟩:=h
 refine⟨by simpa[Nat.blt_eq]using h1,h2,GG_hand (is0_eq h3),fun c hc=> ?_, ?_,(fun e=>by rw[e]at h4;cases h4),by simpa[Nat.blt_eq]using h5,h6,h7⟩
 ·exact l54bad (kn54 hK hc) (GG_hand (isT0_eq h90)) hc
 ·rcases hb with rfl|rfl
  ·exact⟨1,rfl,by omega⟩
  ·exact⟨2,rfl,by omega⟩
theorem good_m{K:KT}(hK:pos54 K=true){f:Nat}{ds:List D}(h:goodM K (f,ds)=true):Mk (knK K handS) f ds:=by
 unfold goodM at h
 simp only[]at h
 split at h
 ·rename_i r hr
  simp only[Az]at h
  obtain⟨h1,h2,h3,h4,h5⟩:=h
  refine⟨mvOf r.bare,r_callB (GG_hand hr) (beqK_eq h1) h2,fun b hb=> ?_⟩
  rcases hb with rfl|rfl
  ·exact good_s hK (.inl rfl) h3 h5
  ·exact good_s hK (.inr rfl) h4 h5
 ·cases h
end Ty
end
section
open Go.ChangeShapes Go.WideShapes Go.ChangeAt Go.RowKit
theorem wrong_spec{H:Type}(ds:List (DataW H))(hl:ds.length=Tryz.f9.params.size):Rows.fieldWrongSpec.fn H ds={results:= [.lit (.bool true)],args:=ds}:=by
 match ds,hl with
 | [_,_,_],_=>rfl
theorem wrong_body:HasBody Tryz.prog 9:=⟨Tryz.f9,Tryz.func9,rfl,by kernel_rfl⟩
theorem wrong_params:Tryz.f9.params.toList= [45,46,3]:=by kernel_rfl
theorem wrong_tys:([45,46,3]:List Nat).all (fun t=>decide (t<Tryz.prog.types.size)&&okTy Tryz.prog 6 t&&Tryz.prog.readableRec t)=true:=by kernel_rfl
theorem wrong_lifted(hc: ∀Ds,ArgsTy Tryz.prog 6 [45,46,3] Ds→VCp Tryz.prog 9 Ds (bv true))(os:Os)(started:os.Started)(H:Type)(enc:TypeId×Value→H):
  ReturnsInHanded {} Tryz.checked os 9 .any (fun w args=>(Rows.fieldWrongSpec.pre enc Tryz.prog Tryz.f9 [] false w args∧laidMetH Tryz.prog Rows.fieldWrongRow.laid w)∧sizedMet enc Tryz.prog Tryz.f9 (OpenSpec.ofChange Rows.fieldWrongSpec) false w args)
   (Rows.fieldWrongSpec.post enc Tryz.prog Tryz.f9 false true false false):=by
 refine returnsInHanded_of_change_and (C:=Tryz.checked) (X:=fun w _=>laidMetH Tryz.prog Rows.fieldWrongRow.laid w) (fun _ _ _ hh h=>h.of_heap hh) ownK started (by kernel_rfl) Tryz.func9
  (ChangeSpec.witness_at (enc:=enc) (C:=Tryz.checked) (os:=os) (X:=fun w _=>laidMetH Tryz.prog Rows.fieldWrongRow.laid w) false (laidWorld os) #[.agg #[.int .u8 0, .int .u8 0, .int .u8 0, .int .u8 0], .slice none 0 0, .int .i64 0] 8 rfl (by kernel_rfl) (by kernel_rfl) (by kernel_rfl) (by kernel_rfl) (by kernel_rfl) (laidWorld_met os _)) ?_
 intro W base args ds gs before hval hW _ _ hL _
 exact law_contract (P:=Tryz.prog) (fn:=Tryz.f9) (s:=Rows.fieldWrongSpec) (n:=6) (tb:=4) laidOut rfl wrong_spec (by kernel_rfl) (by kernel_rfl) (fun t h=>by
  rw[wrong_params]at h
  have h2:=Tz.1 wrong_tys t h
  simp only[Az,decide_eq_true_eq]at h2
  exact⟨h2.1.1,h2.1.2,h2.2⟩) (fun Ds h=>hc Ds (by rw[wrong_params]at h;exact h)) W base args ds gs before hval (gok_seat hL) wrong_body hW
end
end Go.Proofs.YtkcfpgaepmllhaaGreatDoor
