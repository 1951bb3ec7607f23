/- Part of the proof: symbolic execution of the program, its soundness, and the closing lemmas. No condition. -/
import Derived.Test.YtkcfpgaepmllhaaGreatDoorFaf
import Derived.ProofKit
import Derived.Deep.DeepHandedRow
import Derived.OpenShut
import Derived.FnData
import Derived.Test.YtkcfpgaepmllhaaGreatDoorTie
import Derived.Test.YtkcfpgaepmllhaaGreatDoorCards
import Derived.Handed
import Derived.Shelf.Spec.BitsCarry
import Derived.Shelf.SlSortCmp.WholeK
import Derived.Shelf.SlGeneric
import Derived.Ground.SlsfProg
namespace Go.Proofs.YtkcfpgaepmllhaaGreatDoor
open Go.RowKit
set_option maxRecDepth 100000
set_option linter.all false
noncomputable section
def gh{α β:Type}(o:Option α)(f:α→Option β):Option β:= @Option.rec α (fun _=>Option β) none f o
theorem ct{α β:Type}(o:Option α)(f:α→Option β):gh o f=o.bind f:=by cases o<;>rfl
def b9{α:Type}(b:Bool)(x y:α):α:= @Bool.rec (fun _=>α) y x b
theorem b6{α:Type}(b:Bool)(x y:α):b9 b x y=if b=true then x else y:=by cases b<;>rfl
theorem uh{α:Type}(x y:α):b9 true x y=x:=rfl
theorem Gg{α:Type}(x y:α):b9 false x y=y:=rfl
def dV{α:Type}(z:α)(f:Value→α)(d:D):α:= @D.casesOn (fun _=>α) d z f z z (fun _=>z) (fun _=>z) (fun _=>z) (fun _=>z) (fun _ _=>z) (fun _ _ _ _ _=>z) (fun _ _=>z) (fun _ _ _ _=>z) (fun _=>z) z (fun _=>z)
def dList{α:Type}(z:α)(f:List (List D)→α)(d:D):α:= @D.casesOn (fun _=>α) d z (fun _=>z) z z f (fun _=>z) (fun _=>z) (fun _=>z) (fun _ _=>z) (fun _ _ _ _ _=>z) (fun _ _=>z) (fun _ _ _ _=>z) (fun _=>z) z (fun _=>z)
def oZ{α:Type}(z:α)(f:List D→α)(d:D):α:= @D.casesOn (fun _=>α) d z (fun _=>z) z z (fun _=>z) f (fun _=>z) (fun _=>z) (fun _ _=>z) (fun _ _ _ _ _=>z) (fun _ _=>z) (fun _ _ _ _=>z) (fun _=>z) z (fun _=>z)
def FW{α:Type}(z:α)(f:List D→α)(d:D):α:= @D.casesOn (fun _=>α) d z (fun _=>z) z z (fun _=>z) (fun _=>z) f (fun _=>z) (fun _ _=>z) (fun _ _ _ _ _=>z) (fun _ _=>z) (fun _ _ _ _=>z) (fun _=>z) z (fun _=>z)
def wW{α:Type}(z:α)(f:List D→α)(d:D):α:= @D.casesOn (fun _=>α) d z (fun _=>z) z z (fun _=>z) (fun _=>z) (fun _=>z) f (fun _ _=>z) (fun _ _ _ _ _=>z) (fun _ _=>z) (fun _ _ _ _=>z) (fun _=>z) z (fun _=>z)
def vI{α:Type}(z:α)(f:IntKind→Int→α)(v:Value):α:= @Value.casesOn (fun _=>α) v (fun _=>z) f (fun _ _=>z) (fun _ _ _=>z) (fun _=>z) (fun _=>z) (fun _ _ _=>z) (fun _=>z) (fun _=>z) (fun _ _ _=>z) z (fun _ _=>z) z (fun _=>z) (fun _=>z)
def vB{α:Type}(z:α)(f:Bool→α)(v:Value):α:= @Value.casesOn (fun _=>α) v f (fun _ _=>z) (fun _ _=>z) (fun _ _ _=>z) (fun _=>z) (fun _=>z) (fun _ _ _=>z) (fun _=>z) (fun _=>z) (fun _ _ _=>z) z (fun _ _=>z) z (fun _=>z) (fun _=>z)
def gq(p:D→Bool)(l:List D):Bool:= @List.rec D (fun _=>Bool) true (fun a _ ih=>b9 (p a) ih false) l
theorem dW(p:D→Bool): ∀l,gq p l=l.all p
 | []=>rfl
 |a::r=>by
  show b9 (p a) (gq p r) false=_;rw[dW p r,List.all_cons];cases p a<;>rfl
def SG(d:D):Bool:= @D.casesOn (fun _=>Bool) d false (fun _=>true) true true (fun _=>true) (fun _=>false) (fun _=>false) (fun _=>true) (fun _ _=>false) (fun _ _ _ _ _=>false) (fun _ _=>false) (fun _ _ _ _=>false) (fun _=>false) true (fun _=>true)
theorem CP:SG=D.eT:=by funext d;cases d<;>rfl
def NQ(d:D):Bool:= @D.casesOn (fun _=>Bool) d false (fun _=>true) true true (fun _=>true) (fun _=>false) (fun _=>false) (fun _=>true) (fun _ xs=>gq SG xs) (fun _ _ _ _ _=>false) (fun _ _=>false) (fun _ _ _ _=>false) (fun _=>false) true (fun _=>true)
theorem yr:NQ=D.aM:=by
 funext d;cases d<;>try rfl
 show gq SG _=_;rw[dW,CP];rfl
def fTU(d:D):Bool:= @D.casesOn (fun _=>Bool) d false (fun _=>true) true true (fun _=>true) (fun xs=>gq NQ xs) (fun _=>false) (fun _=>true) (fun _ xs=>gq SG xs) (fun _ _ _ _ _=>false) (fun _ _=>false) (fun _ _ _ _=>false) (fun _=>false) true (fun _=>true)
theorem SH:fTU=fun d=>match d with
  | .agg ys=>ys.all D.aM
  |d=>d.aM:=by
 funext d;cases d<;>first|rfl|(show gq NQ _=_;rw[dW,yr];done)|(show gq SG _=_;rw[dW,CP];rfl)
def fT(d:D):Bool:= @D.casesOn (fun _=>Bool) d false (fun _=>true) true true (fun _=>true) (fun xs=>gq NQ xs) (fun xs=>gq fTU xs) (fun _=>true) (fun _ xs=>gq NQ xs) (fun _ _ _ _ _=>false) (fun _ _=>false) (fun _ _ _ _=>false) (fun _=>false) true (fun _=>true)
theorem tW:fT=D.aF:=by
 funext d;cases d<;>first|rfl|(show gq NQ _=_;rw[dW,yr];rfl)|(show gq fTU _=_;rw[dW,SH];rfl)
def fOk(d:D):Bool:= @D.casesOn (fun _=>Bool) d false (fun _=>true) true true (fun _=>true) (fun _=>false) (fun _=>false) (fun _=>true) (fun _ xs=>gq SG xs) (fun _ _ _ _ _=>false) (fun _ _=>false) (fun _ _ _ _=>false) (fun _=>false) true (fun _=>true)
theorem SF(d:D):fOk d=(d.gK&&d.aM):=by
 cases d<;>first|rfl|(show gq SG _=_;rw[dW,CP];rfl)
def KD(d:D):Bool:=dV false (fun _=>true) d
theorem yq:KD=D.aW:=by funext d;cases d<;>rfl
def sE{α:Type}(l:List α):Nat→Nat:= @List.rec α (fun _=>Nat→Nat) (fun n=>n) (fun _ _ ih n=>ih (Nat.add n 1)) l
theorem iw{α:Type}: ∀(l:List α) (n:Nat),sE l n=n+l.length
 | [],_=>rfl
 |_::r,n=>by
  show sE r (n+1)=_;rw[iw r,List.length_cons];omega
def Jg(l:List D)(n:Nat):Bool:=Nat.beq (sE l 0) n
theorem Jh(l:List D)(n:Nat):Jg l n=decide (l.length=n):=by
 unfold Jg;rw[iw,Nat.zero_add];cases h:Nat.beq l.length n with
 |true=>simp[Nat.eq_of_beq_eq_true h]
 |false=>symm;simp only[decide_eq_false_iff_not];intro e;rw[e,Nat.beq_refl]at h;cases h
def SJ{α:Type}(n:Nat)(f:Nat→α):α:= @Nat.casesOn (fun _=>α) n (f 0) fun m=>f (Nat.succ m)
theorem qs{α:Type}(n:Nat)(f:Nat→α):SJ n f=f n:=by cases n<;>rfl
def fcI{α:Type}(z:Int)(f:Int→α):α:= @Int.casesOn (fun _=>α) z (fun n=>SJ n fun n=>f (Int.ofNat n)) fun n=>SJ n fun n=>f (Int.negSucc n)
theorem SI{α:Type}(z:Int)(f:Int→α):fcI z f=f z:=by
 cases z with
 |ofNat n=>exact qs n fun n=>f (Int.ofNat n)
 |negSucc n=>exact qs n fun n=>f (Int.negSucc n)
def wa(m n:Nat):Int:=b9 (Nat.ble n m) (Int.ofNat (Nat.sub m n)) (Int.negSucc (Nat.sub (Nat.sub n m) 1))
theorem ta(m n:Nat):wa m n=(m:Int)-n:=by
 unfold wa;cases h:Nat.ble n m with
 |true=>
  have h:=Nat.le_of_ble_eq_true h;show((m-n:Nat):Int)=_;omega
 |false=>
  have h: ¬n≤m:=fun e=>by rw[Nat.ble_eq_true_of_le e]at h;cases h
  show Int.negSucc (n-m-1)=_;omega
def VW(a b:Int):Int:= @Int.casesOn (fun _=>Int) a (fun m=> @Int.casesOn (fun _=>Int) b (fun n=>Int.ofNat (Nat.add m n)) fun n=>wa m (Nat.succ n)) fun m=> @Int.casesOn (fun _=>Int) b (fun n=>wa n (Nat.succ m)) fun n=>Int.negSucc (Nat.succ (Nat.add m n))
theorem KP(a b:Int):VW a b=a+b:=by
 cases a<;>cases b<;>rename_i m n
 ·rfl
 ·show wa _ _=_;rw[ta,Int.ofNat_eq_natCast];omega
 ·show wa _ _=_;rw[ta,Int.ofNat_eq_natCast];omega
 ·rfl
def ϗ(a b:Int):Int:= @Int.casesOn (fun _=>Int) a (fun m=> @Int.casesOn (fun _=>Int) b (fun n=>wa m n) fun n=>Int.ofNat (Nat.add m (Nat.succ n))) fun m=> @Int.casesOn (fun _=>Int) b (fun n=>Int.negSucc (Nat.add m n)) fun n=>wa n m
theorem MX(a b:Int):ϗ a b=a-b:=by
 cases a<;>cases b
 ·show wa _ _=_;rw[ta];rfl
 ·rename_i m n;show((m+(n+1):Nat):Int)=(m:Int)-Int.negSucc n;omega
 ·rename_i m n;show Int.negSucc (m+n)=Int.negSucc m-(n:Int);omega
 ·rename_i m n;show wa _ _=_;rw[ta];omega
def yN(a b:Int):Bool:= @Int.casesOn (fun _=>Bool) a (fun m=> @Int.casesOn (fun _=>Bool) b (fun n=>Nat.blt m n) fun _=>false) fun m=> @Int.casesOn (fun _=>Bool) b (fun _=>true) fun n=>Nat.blt n m
theorem T3(a b:Int):yN a b=decide (a<b):=by
 cases a<;>cases b<;>rename_i m n
 ·show Nat.blt m n=_;rw[Bool.eq_iff_iff];simp[Nat.blt_eq]
 ·symm;show decide ((m:Int)<Int.negSucc n)=false;simp only[decide_eq_false_iff_not];omega
 ·symm;show decide (Int.negSucc m<(n:Int))=true;simp only[decide_eq_true_eq];omega
 ·show Nat.blt n m=_;rw[Bool.eq_iff_iff,Nat.blt_eq,decide_eq_true_eq];omega
def Wi(a b:Int):Bool:= @Int.casesOn (fun _=>Bool) a (fun m=> @Int.casesOn (fun _=>Bool) b (fun n=>Nat.beq m n) fun _=>false) fun m=> @Int.casesOn (fun _=>Bool) b (fun _=>false) fun n=>Nat.beq m n
theorem GA(m n:Nat):Nat.beq m n=decide (m=n):=by
 cases h:Nat.beq m n with
 |true=>simp[Nat.eq_of_beq_eq_true h]
 |false=>symm;simp only[decide_eq_false_iff_not];intro e;rw[e,Nat.beq_refl]at h;cases h
theorem CM(a b:Int):Wi a b=(a==b):=by
 cases a<;>cases b<;>rename_i m n
 ·show Nat.beq m n=_;rw[Bool.eq_iff_iff];simp;omega
 ·rfl
 ·rfl
 ·show Nat.beq m n=_;rw[Bool.eq_iff_iff];simp
def hiK(k:IntKind):Nat:= @IntKind.casesOn (fun _=>Nat) k 128 32768 2147483648 9223372036854775808 256 65536 4294967296 18446744073709551616
def loK(k:IntKind):Nat:= @IntKind.casesOn (fun _=>Nat) k 128 32768 2147483648 9223372036854775808 0 0 0 0
def Ku(k:IntKind)(z:Int):Int:= @Int.casesOn (fun _=>Int) z (fun n=>b9 (Nat.blt n (hiK k)) (Int.ofNat n) (k.wrap (Int.ofNat n))) fun n=>b9 (Nat.blt n (loK k)) (Int.negSucc n) (k.wrap (Int.negSucc n))
theorem iC(k:IntKind)(z:Int)(h1: -(loK k:Int)≤z)(h2:z<(hiK k:Int)):k.wrap z=z:=by
 cases k
 case i8=>replace h1: -(128:Int)≤z:=h1;replace h2:z<(128:Int):=h2;simp only[IntKind.wrap,IntKind.bits,IntKind.signed,Bool.true_and];split<;>rename_i h<;>simp at h<;>omega
 case i16=>replace h1: -(32768:Int)≤z:=h1;replace h2:z<(32768:Int):=h2;simp only[IntKind.wrap,IntKind.bits,IntKind.signed,Bool.true_and];split<;>rename_i h<;>simp at h<;>omega
 case i32=>replace h1: -(2147483648:Int)≤z:=h1;replace h2:z<(2147483648:Int):=h2;simp only[IntKind.wrap,IntKind.bits,IntKind.signed,Bool.true_and];split<;>rename_i h<;>simp at h<;>omega
 case i64=>replace h1: -(9223372036854775808:Int)≤z:=h1;replace h2:z<(9223372036854775808:Int):=h2;simp only[IntKind.wrap,IntKind.bits,IntKind.signed,Bool.true_and];split<;>rename_i h<;>simp at h<;>omega
 case u8=>replace h1: -(0:Int)≤z:=h1;replace h2:z<(256:Int):=h2;simp[IntKind.wrap,IntKind.bits,IntKind.signed];omega
 case u16=>replace h1: -(0:Int)≤z:=h1;replace h2:z<(65536:Int):=h2;simp[IntKind.wrap,IntKind.bits,IntKind.signed];omega
 case u32=>replace h1: -(0:Int)≤z:=h1;replace h2:z<(4294967296:Int):=h2;simp[IntKind.wrap,IntKind.bits,IntKind.signed];omega
 case u64=>replace h1: -(0:Int)≤z:=h1;replace h2:z<(18446744073709551616:Int):=h2;simp[IntKind.wrap,IntKind.bits,IntKind.signed];omega
theorem Kv(k:IntKind)(z:Int):Ku k z=k.wrap z:=by
 cases z with
 |ofNat n=>
  show b9 (Nat.blt n (hiK k)) (Int.ofNat n) (k.wrap (Int.ofNat n))=_;cases h:Nat.blt n (hiK k)with
  |false=>rfl
  |true=>
   rw[Nat.blt_eq]at h;rw[uh,iC k _ (by rw[Int.ofNat_eq_natCast];omega) (by rw[Int.ofNat_eq_natCast];omega)]
 |negSucc n=>
  show b9 (Nat.blt n (loK k)) (Int.negSucc n) (k.wrap (Int.negSucc n))=_;cases h:Nat.blt n (loK k)with
  |false=>rfl
  |true=>
   rw[Nat.blt_eq]at h;rw[uh,iC k _ (by omega) (by omega)]
def XS(k:IntKind):Nat:= @IntKind.casesOn (fun _=>Nat) k 0 1 2 3 4 5 6 7
def Ln(k k':IntKind):Bool:=Nat.beq (XS k) (XS k')
theorem EE(k k':IntKind):Ln k k'=decide (k=k'):=by cases k<;>cases k'<;>rfl
end
noncomputable section
def wb(z:Option D)(f:D→Option D)(ds:List D):Option D:=ds.casesOn z fun a r=>r.casesOn (f a) fun _ _=>z
def BN(z:Option D)(f:D→D→Option D)(ds:List D):Option D:=ds.casesOn z fun a r=>r.casesOn z fun b s=>s.casesOn (f a b) fun _ _=>z
theorem iz{z:Option D}{f:D→Option D}{ds:List D}(h: ∀a,ds= [a]→f a=z):wb z f ds=z:=by
 rcases ds with _|⟨a,_|⟨b,r⟩⟩
 ·rfl
 ·exact h a rfl
 ·rfl
theorem nq{z:Option D}{f:D→D→Option D}{ds:List D}(h: ∀a b,ds= [a,b]→f a b=z):BN z f ds=z:=by
 rcases ds with _|⟨a,_|⟨b,_|⟨c,r⟩⟩⟩
 ·rfl
 ·rfl
 ·exact h a b rfl
 ·rfl
theorem rq{α:Type}{z:α}{f:Value→α}{d:D}(h: ∀v,d= .v v→f v=z):dV z f d=z:=by cases d<;>first|rfl|exact h _ rfl
theorem mu{α:Type}{z:α}{f:List (List D)→α}{d:D}(h: ∀v,d= .list v→f v=z):dList z f d=z:=by cases d<;>first|rfl|exact h _ rfl
theorem sQ{α:Type}{z:α}{f:List D→α}{d:D}(h: ∀v,d= .agg v→f v=z):oZ z f d=z:=by cases d<;>first|rfl|exact h _ rfl
theorem Lc{α:Type}{z:α}{f:List D→α}{d:D}(h: ∀v,d= .tup v→f v=z):FW z f d=z:=by cases d<;>first|rfl|exact h _ rfl
theorem AL{α:Type}{z:α}{f:List D→α}{d:D}(h: ∀v,d= .lptr v→f v=z):wW z f d=z:=by cases d<;>first|rfl|exact h _ rfl
theorem sf{α:Type}{z:α}{f:IntKind→Int→α}{v:Value}(h: ∀k n,v= .int k n→f k n=z):vI z f v=z:=by cases v<;>first|rfl|exact h _ _ rfl
theorem RO{α:Type}{z:α}{f:Bool→α}{v:Value}(h: ∀b,v= .bool b→f b=z):vB z f v=z:=by cases v<;>first|rfl|exact h _ rfl
def xK{α:Type}(p:α→Bool)(n:Nat):List α→(List α→Option D)→Option D:= @Nat.rec (fun _=>List α→(List α→Option D)→Option D) (fun _ f=>f []) (fun _ ih l f=>l.casesOn none fun a r=>b9 (p a) (ih r fun t=>f (a::t)) none) n
theorem vz{α:Type}(p:α→Bool): ∀(n:Nat) (l:List α) (f:List α→Option D),xK p n l f=if n≤l.length∧(l.take n).all p=true then f (l.take n)else none
 |0,l,f=>by show f []=_;simp
 |n+1,[],f=>by simp[xK]
 |n+1,a::r,f=>by
  show b9 (p a) (xK p n r fun t=>f (a::t)) none=_;rw[vz p n r,b6];simp only[List.length_cons,List.take_succ_cons,List.all_cons,Az,Nat.add_le_add_iff_right];cases p a<;>simp
def HZ(n:Nat):List D→(List D→Option D)→Option D:= @Nat.rec (fun _=>List D→(List D→Option D)→Option D) (fun l f=>f l) (fun _ ih l f=>l.casesOn (f []) fun _ r=>ih r f) n
theorem AR: ∀(n:Nat) (l:List D) (f:List D→Option D),HZ n l f=f (l.drop n)
 |0,_,_=>rfl
 |n+1,[],f=>rfl
 |n+1,a::r,f=>by
  show HZ n r f=_;rw[AR n r,List.drop_succ_cons]
theorem yV{α:Type}: ∀(i:Nat) (l:List α),Du i l=l[i]?
 |0,[]=>rfl
 |0,_::_=>rfl
 |_+1,[]=>rfl
 |i+1,_::r=>yV i r
def okL(n:Nat)(l:List D):Nat→Bool:= @List.rec D (fun _=>Nat→Bool) (fun m=>Nat.beq m n) (fun a _ ih m=>b9 (fOk a) (ih (Nat.add m 1)) false) l
theorem Jw(n:Nat): ∀(l:List D) (m:Nat),okL n l m=(decide (m+l.length=n)&&(l.all D.gK&&l.all D.aM))
 | [],m=>by show Nat.beq m n=_;rw[GA];simp
 |a::r,m=>by
  show b9 (fOk a) (okL n r (m+1)) false=_;rw[Jw n r,SF,List.length_cons,List.all_cons,List.all_cons,show m+1+r.length=m+(r.length+1) by omega];cases a.gK<;>cases a.aM<;>simp[b9]
def sB(b:Bool):Option D:=b9 b (some (bv true)) (some (bv false))
theorem PI(b:Bool):sB b=some (bv b):=by cases b<;>rfl
def sI(k:IntKind)(z:Int):Option D:=fcI z fun z=>some (.v (.int k z))
theorem Θ(k:IntKind)(z:Int):sI k z=some (.v (.int k z)):=SI _ _
def ibK(op:BinOp):IntKind→Int→Int→Option D:=match op with
 | .add=>fun k a b=>sI k (Ku k (VW a b))
 | .sub=>fun k a b=>sI k (Ku k (ϗ a b))
 | .eql=>fun _ a b=>sB (Wi a b)
 | .neq=>fun _ a b=>sB (not (Wi a b))
 | .lss=>fun _ a b=>sB (yN a b)
 | .leq=>fun _ a b=>sB (not (yN b a))
 | .gtr=>fun _ a b=>sB (yN b a)
 | .geq=>fun _ a b=>sB (not (yN a b))
 |op=>fun k a b=>dm op k a b
theorem Tn(op:BinOp)(k:IntKind)(a b:Int):ibK op k a b=dm op k a b:=by
 cases op<;>try rfl
 all_goals simp only[ibK,dm,PI,Θ,Kv,KP,MX,CM,T3]
 ·rfl
 ·congr 2;simp[←Bool.decide_eq_false,Int.not_lt]
 ·congr 2;simp[←Bool.decide_eq_false,Int.not_lt]
theorem Ge{op:BinOp}{k:IntKind}{a b:Int}{d:D}(h:dm op k a b=some d):d.aF=true:=by
 unfold dm at h;split at h<;>first|(cases h;rfl)|(split at h<;>cases h;rfl)|cases h
def kb2(op:BinOp)(k:IntKind)(a:Int)(k':IntKind)(b:Int):Option D:=b9 (Ln k k') (ibK op k a b) none
def kb1(z:Option D)(op:BinOp)(y:D)(k:IntKind)(a:Int):Option D:=dV z (vI z (kb2 op k a)) y
def N9(op:BinOp)(ds:List D):Option D:=BN (fx (.ibin op) ds) (fun x y=>dV (fx (.ibin op) ds) (vI (fx (.ibin op) ds) (kb1 (fx (.ibin op) ds) op y)) x) ds
theorem IZ(op:BinOp):N9 op=fx (.ibin op):=funext fun ds=>nq fun x y e=>rq fun v ev=>sf fun k a ea=>rq fun w ew=>sf fun k' b eb=>by
 subst e ev ea ew eb;show b9 (Ln k k') (ibK op k a b) none=(if k=k' then dm op k a b else none).bind fun d=>if d.aF then some d else none
 rw[EE,b6,Tn];by_cases h:k=k'
 ·rw[if_pos h,if_pos (by simp[h])];cases hb:dm op k a b with
  |none=>rfl
  |some d=>rw[Oz,if_pos (Ge hb)]
 ·rw[if_neg h,if_neg (by simp[h])];rfl
def Oc(ds:List D):Option D:=wb (fx .llen ds) (dList (fx .llen ds) fun es=>SJ (sE es 0) fun n=>some (.v (.int .i64 (Int.ofNat n)))) ds
theorem I5:Oc=fx .llen:=funext fun ds=>iz fun d e=>mu fun es ee=>by
 subst e ee;rw[qs,iw,Nat.zero_add];rfl
def kl1(n:Nat)(xs:List D):Option D:=b9 (Nat.ble n (sE xs 0)) (gh (nth xs 0) fun d=>b9 (fT d) (some d) none) none
def I6(n:Nat)(g:Bool)(ds:List D):Option D:=wb (fx (.load n g) ds) (wW (fx (.load n g) ds) fun xs=>b9 g (xK NQ n xs fun l=>some (.agg l)) (kl1 n xs)) ds
theorem Gm(n:Nat)(g:Bool):I6 n g=fx (.load n g):=funext fun ds=>iz fun d e=>AL fun xs ee=>by
 subst e ee;show _=(if n≤xs.length then(if g then some (.agg (xs.take n))else xs[0]?)else none).bind fun d=>if d.aF then some d else none
 cases g with
 |true=>
  rw[uh,vz,yr];by_cases h1:n≤xs.length
  ·rw[if_pos h1];show _=if(xs.take n).all D.aM=true then _ else none
   by_cases h2:(xs.take n).all D.aM=true
   ·rw[if_pos ⟨h1,h2⟩,if_pos h2]
   ·rw[if_neg (fun c=>h2 c.2),if_neg h2]
  ·rw[if_neg h1,if_neg (fun c=>h1 c.1)];rfl
 |false=>
  rw[Gg];unfold kl1;rw[iw,Nat.zero_add,oH,ct,b6,tW];by_cases h1:n≤xs.length
  ·rw[if_pos (Nat.ble_eq_true_of_le h1),if_pos h1];congr 1;funext d;rw[b6]
  ·rw[if_neg h1,if_neg (fun c=>h1 (Nat.le_of_ble_eq_true c))];rfl
def ki1(size:Nat)(c:List D):Option D:=b9 (Jg c size) (some (.lptr c)) none
def ki2(es:List (List D))(size:Nat)(i:Int):Option D:= @Int.casesOn (fun _=>Option D) i (fun n=>gh (Du n es) (ki1 size)) fun _=>none
def ki3(z:Option D)(size:Nat)(b:D)(es:List (List D)):Option D:=dV z (vI z fun _ i=>ki2 es size i) b
def Oa(e size:Nat)(ds:List D):Option D:=BN (fx (.idx e size) ds) (fun a b=>dList (fx (.idx e size) ds) (ki3 (fx (.idx e size) ds) size b) a) ds
theorem I4(e size:Nat):Oa e size=fx (.idx e size):=funext fun ds=>nq fun a b e1=>mu fun es e2=>rq fun v e3=>sf fun k i e4=>by
 subst e1 e2 e3 e4;show ki2 es size i=(if i<0 then none else(es[i.toNat]?).bind fun c=>if c.length=size then some (D.lptr c)else none).bind fun d=>if d.aF then some d else none
 cases i with
 |ofNat n=>
  show gh (Du n es) (ki1 size)=_;rw[if_neg (by rw[Int.ofNat_eq_natCast];omega),ct,yV];show _=((es[n]?).bind _).bind _;cases es[n]? with
  |none=>rfl
  |some c=>
   rw[Oz,Oz];unfold ki1;rw[Jh,b6];by_cases h:c.length=size
   ·rw[if_pos h,if_pos (by simp[h])];rfl
   ·rw[if_neg h,if_neg (by simp[h])];rfl
 |negSucc n=>rw[if_pos (by omega)];rfl
def N_(off:Nat)(ds:List D):Option D:=wb (fx (.fld off) ds) (wW (fx (.fld off) ds) fun xs=>HZ off xs fun l=>some (.lptr l)) ds
theorem I3(off:Nat):N_ off=fx (.fld off):=funext fun ds=>iz fun d e=>AL fun xs ee=>by
 subst e ee;rw[AR];rfl
def Od(ds:List D):Option D:=wb (fx .inot ds) (dV (fx .inot ds) (vB (fx .inot ds) fun b=>sB (not b))) ds
theorem I9:Od=fx .inot:=funext fun ds=>iz fun d e=>rq fun v e1=>RO fun b e2=>by
 subst e e1 e2;rw[PI];rfl
def LS(d:D):Option D:=b9 (fT d) (some d) none
def N'(k:Nat)(ds:List D):Option D:=wb (fx (.ext k) ds) (FW (fx (.ext k) ds) fun xs=>gh (nth xs k) LS) ds
theorem I1(k:Nat):N' k=fx (.ext k):=funext fun ds=>iz fun d e=>Lc fun xs ee=>by
 subst e ee;rw[ct,oH];show(xs[k]?).bind LS=(xs[k]?).bind _;congr 1;funext d;unfold LS;rw[b6,tW]
def fp(n:Nat)(x y:D):Option Bool:=aa [n] [x] [y]
def kq2(z:Option Bool)(n:Nat)(k:IntKind)(a:Int)(k':IntKind)(b:Int):Option Bool:=b9 (Nat.beq n (XS k)) (b9 (Nat.beq n (XS k')) (some (Wi a b)) z) z
def kq1(z:Option Bool)(n:Nat)(y:D)(k:IntKind)(a:Int):Option Bool:=dV z (vI z (kq2 z n k a)) y
def wU(n:Nat)(x y:D):Option Bool:=dV (fp n x y) (vI (fp n x y) (kq1 (fp n x y) n y)) x
theorem Jc(k:IntKind):XS k=bj k:=by cases k<;>rfl
theorem Au(n:Nat)(x y:D):wU n x y=fp n x y:=rq fun v e1=>sf fun k a e2=>rq fun w e3=>sf fun k' b e4=>by
 subst e1 e2 e3 e4;unfold kq2;rw[Jc,Jc,GA,GA,b6,b6];by_cases h:n=bj k
 ·by_cases h':n=bj k'
  ·rw[if_pos (by simp[h]),if_pos (by simpa using h')];show _=if n=bj k∧n=bj k' then _ else none
   rw[if_pos ⟨h,h'⟩,CM];simp[aa]
  ·rw[if_pos (by simp[h]),if_neg (by simpa using h')]
 ·rw[if_neg (by simpa using h)]
def H3(ks:List Nat):List D→List D→Option Bool:= @List.rec Nat (fun _=>List D→List D→Option Bool) (fun xs ys=>xs.casesOn (ys.casesOn (some true) fun _ _=>none) fun _ _=>none)
 (fun n _ ih xs ys=>xs.casesOn none fun x r=>ys.casesOn none fun y s=>gh (wU n x y) fun a=>gh (ih r s) fun b=>some (b9 a b false)) ks
theorem lu(n:Nat)(ks:List Nat)(x:D)(xs:List D)(y:D)(ys:List D):aa (n::ks) (x::xs) (y::ys)=(fp n x y).bind fun a=>(aa ks xs ys).bind fun b=>some (a&&b):=by
 unfold fp;have key:aa [] [] []=some true:=rfl;have a: ∀(a:Bool),((aa ks xs ys).map fun r=>a&&r)=(aa ks xs ys).bind fun b=>some (a&&b):=fun a=>by cases aa ks xs ys<;>rfl
 rw[aa.eq_def (n::ks),aa.eq_def [n]];split
 ·rename_i h _ _;cases h
 ·rename_i n0 ks0 k a0 xs0 k' b0 ys0 h1 h2 h3;cases h1;cases h2;cases h3;simp only[key,Pz,Bool.and_true];split
  ·exact a _
  ·rfl
 ·rename_i h1 h2 h3;cases h1;cases h2;cases h3;simp only[key,Pz,Bool.and_true];exact a _
 ·rename_i h1 h2 h3;cases h1;cases h2;cases h3;simp only[key,Pz,Bool.and_true];exact a _
 ·rename_i h0 h1 h2 h3;split
  ·rename_i h _ _;cases h
  ·rename_i e1 e2 e3;cases e1;cases e2;cases e3;exact(h1 _ _ _ _ _ _ _ _ rfl rfl rfl).elim
  ·rename_i e1 e2 e3;cases e1;cases e2;cases e3;exact(h2 _ _ _ _ _ rfl rfl rfl).elim
  ·rename_i e1 e2 e3;cases e1;cases e2;cases e3;exact(h3 _ _ _ _ _ rfl rfl rfl).elim
  ·rfl
theorem yo: ∀(ks:List Nat) (xs ys:List D),H3 ks xs ys=aa ks xs ys
 | [],[],[]=>rfl
 | [],[],_::_=>by simp[aa];rfl
 | [],_::_,_=>by simp[aa];rfl
 |n::ks,[],_=>by simp[aa];rfl
 |n::ks,x::xs,[]=>by simp[aa];rfl
 |n::ks,x::xs,y::ys=>by
  show gh (wU n x y) (fun a=>gh (H3 ks xs ys) fun b=>some (b9 a b false))=_;rw[lu,ct,Au,yo ks xs ys];congr 1;funext a;rw[ct];congr 1;funext b;cases a<;>rfl
def kae(neg:Bool)(r:Bool):Option D:=b9 neg (sB (not r)) (sB r)
def N8(neg:Bool)(ks:List Nat)(ds:List D):Option D:=BN (fx (.aeq neg ks) ds) (fun a b=>oZ (fx (.aeq neg ks) ds) (fun xs=>oZ (fx (.aeq neg ks) ds) (fun ys=>gh (H3 ks xs ys) (kae neg)) b) a) ds
theorem IW(neg:Bool)(ks:List Nat):N8 neg ks=fx (.aeq neg ks):=funext fun ds=>nq fun a b e=>sQ fun xs e1=>sQ fun ys e2=>by
 subst e e1 e2;rw[ct,yo];show _=((aa ks xs ys).map fun r=>bv (if neg then !r else r)).bind fun d=>if d.aF then some d else none
 cases aa ks xs ys with
 |none=>rfl
 |some r=>cases neg<;>cases r<;>rfl
def pkK(k:PK):List D→Option D:=match k with
 | .ibin op=>N9 op
 | .llen=>Oc
 | .load n g=>I6 n g
 | .idx e s=>Oa e s
 | .fld o=>N_ o
 | .inot=>Od
 | .ext k=>N' k
 | .aeq n ks=>N8 n ks
 |k=>fx k
theorem Um(k:PK):pkK k=fx k:=by
 cases k<;>first|rfl|exact IZ _|exact I5|exact Gm _ _|exact I4 _ _|exact I3 _|exact I9|exact I1 _|exact IW _ _
def kce(j n:Nat)(v:Value):Option D:=b9 (Nat.beq n 1) (b9 (Nat.beq j 0) (some (.v v)) none) none
def I0(j n:Nat)(ds:List D):Option D:=wb (z_ j n ds) (fun d=>oZ (dV (z_ j n ds) (kce j n) d) (fun xs=>b9 (okL n xs 0) (nth xs j) none) d) ds
theorem Gl(j n:Nat):I0 j n=z_ j n:=funext fun ds=>iz fun d e=>by
 subst e;cases d<;>try rfl
 ·rename_i v;show kce j n v=if([D.v v].length=n∧ [D.v v].all D.gK=true∧ [D.v v].all D.aM=true)then [D.v v][j]? else none
  unfold kce;rw[GA,b6];by_cases h:n=1
  ·rw[if_pos (by simp[h]),if_pos ⟨by simp[h],rfl,rfl⟩,GA,b6];cases j<;>simp
  ·rw[if_neg (by simp[h]),if_neg (fun c=>h c.1.symm)]
 ·rename_i xs;show b9 (okL n xs 0) (nth xs j) none=if(xs.length=n∧xs.all D.gK=true∧xs.all D.aM=true)then xs[j]? else none
  rw[Jw,b6,oH,Nat.zero_add];by_cases h:xs.length=n<;>cases xs.all D.gK<;>cases xs.all D.aM<;>simp[h]
def XM(w:Bool)(ds:List D):Option D:=wb (Kz w ds) (dV (Kz w ds) (vB (Kz w ds) fun b=>b9 b (sB w) (sB (not w)))) ds
theorem LR(w:Bool):XM w=Kz w:=funext fun ds=>iz fun d e=>rq fun v e1=>RO fun b e2=>by
 subst e e1 e2;cases b<;>cases w<;>rfl
def Oe(ds:List D):Option D:=wb (sm ds) (fun d=>oZ (dV (dList (sm ds) (fun _=>some d) d) (fun _=>some d) d) (fun xs=>b9 (gq KD xs) (some d) (sm ds)) d) ds
theorem Bn:Oe=sm:=funext fun ds=>iz fun d e=>by
 subst e;cases d<;>try rfl
 rename_i xs;show b9 (gq KD xs) (some (.agg xs)) (sm [.agg xs])=sm [.agg xs];rw[dW,yq,b6];by_cases h:xs.all D.aW=true
 ·rw[if_pos h]
  have hn:(D.agg xs).aF=true:=by
   show xs.all D.aM=true;rw[Tz]at h⊢;intro x hx;have:=h x hx;cases x<;>first|rfl|(simp[D.aW]at this;done)
  show _=if(D.agg xs).aF then bo dO (.agg xs)else none
  rw[if_pos hn];show _=(aU (aq dO 6) xs).map D.agg;unfold aU;rw[if_pos h];rfl
 ·rw[if_neg h]
def I'(ds:List D):Option D:=wb (Ab ds) (fun d=>dV (dList (Ab ds) (fun _=>some d) d) (fun _=>some d) d) ds
theorem Gq:I'=Ab:=funext fun ds=>iz fun d e=>by
 subst e;cases d<;>rfl
def kt1(es:List (List D))(k:Int):Option D:= @Int.casesOn (fun _=>Option D) k (fun n=>xK (fun _=>true) n es fun l=>some (.list l)) fun _=>none
def I_(ds:List D):Option D:=BN (rf ds) (fun a b=>dList (rf ds) (fun es=>dV (rf ds) (vI (rf ds) fun _ i=>kt1 es i) b) a) ds
theorem Gr:I_=rf:=funext fun ds=>nq fun a b e1=>mu fun es e2=>rq fun v e3=>sf fun k i e4=>by
 subst e1 e2 e3 e4;show kt1 es i=if 0≤i∧i≤es.length then some (D.list (es.take i.toNat))else none
 cases i with
 |ofNat n=>
  show xK (fun _=>true) n es _=_;rw[vz];by_cases h:n≤es.length
  ·rw[if_pos ⟨h,by simp⟩,if_pos ⟨by rw[Int.ofNat_eq_natCast];omega,by rw[Int.ofNat_eq_natCast];omega⟩];rfl
  ·rw[if_neg (fun c=>h c.1),if_neg (fun c=>h (by have:=c.2;rw[Int.ofNat_eq_natCast]at this;omega))]
 |negSucc n=>rw[if_neg (fun c=>by omega)];rfl
def IX(ds:List D):Option D:=b9 (gq NQ ds) (some (.agg ds)) none
theorem IY:IX=Kx:=funext fun ds=>by
 unfold IX Kx;rw[dW,yr,b6]
def fFU(d:D):Bool:=oZ (KD d) (fun ys=>gq KD ys) d
def fF(d:D):Bool:=oZ (FW (KD d) (fun xs=>gq fFU xs) d) (fun xs=>gq KD xs) d
theorem NP:fF=D.flat:=by
 funext d;cases d<;>try rfl
 ·show gq KD _=_;rw[dW,yq];rfl
 ·rename_i xs;show gq fFU xs=_;rw[dW];unfold D.flat;congr 1;funext x;cases x<;>try rfl
  show gq KD _=_;rw[dW,yq]
def kr2(fl:Bool)(r b:D):Option D:=b9 (b9 fl (b9 (fF b) true (b9 r.eD (fT b) false)) (fT b)) (some b) none
def Dd(G:FP)(fl:Bool)(f:Nat)(ds:List D):Option D:=gh (G f ds) fun r=>kr2 fl r r.bare
theorem Gj(G:FP)(fl:Bool)(f:Nat):Dd G fl f=D7 G fl f:=funext fun ds=>by
 unfold Dd D7 gn;rw[ct];congr 1;funext r;unfold kr2;rw[b6,NP,tW];cases fl<;>cases r.bare.flat<;>cases r.eD<;>cases r.bare.aF<;>rfl
def jt(ks:List Nat)(x y:D):Option Bool:= @List.casesOn Nat (fun _=>Option Bool) ks none fun n r=>b9 (Nat.beq n 99) (oZ (bR (n::r) x y) (fun xs=>oZ (bR (n::r) x y) (fun ys=>H3 r xs ys) y) x) (r.casesOn (wU n x y) fun _ _=>none)
theorem um(ks:List Nat)(x y:D):jt ks x y=bR ks x y:=by
 cases ks with
 |nil=>rfl
 |cons n r=>
  show b9 (Nat.beq n 99) (oZ (bR (n::r) x y) (fun xs=>oZ (bR (n::r) x y) (fun ys=>H3 r xs ys) y) x) (r.casesOn (wU n x y) fun _ _=>none)=_;rw[GA,b6];by_cases h:n=99
  ·subst h;rw[if_pos (by simp)];exact sQ fun xs e1=>sQ fun ys e2=>by subst e1 e2;rw[yo];rfl
  ·rw[if_neg (by simpa using h)];cases r with
   |nil=>
    show wU n x y=_;rw[Au];unfold fp;simp[bR,h]
   |cons m s=>
    show(none:Option Bool)=_;simp[bR,h]
def wm{α:Type}(z:α)(f:D→D→α)(c:List D):α:= @List.casesOn D (fun _=>α) c z fun a r=> @List.casesOn D (fun _=>α) r z fun b s=> @List.casesOn D (fun _=>α) s (f a b) fun _ _=>z
def kV(l:List (List D)):Bool:= @List.rec (List D) (fun _=>Bool) true (fun c _ ih=>wm false (fun _ _=>ih) c) l
def A8(ks:List Nat)(k:D)(l:List (List D)):Option (Option D):= @List.rec (List D) (fun _=>Option (Option D)) (some none) (fun c r ih=>wm none (fun a b=>gh (jt ks k a) fun e=>b9 e (b9 (kV r) (some (some b)) none) ih) c) l
def B5(ks:List Nat)(k v:D)(l:List (List D)):Option (List (List D)):= @List.rec (List D) (fun _=>Option (List (List D))) (some [[k,v]]) (fun c r ih=>wm none (fun a _=>gh (jt ks k a) fun e=>b9 e (b9 (kV r) (some ([a,v]::r)) none) (gh ih fun t=>some (c::t))) c) l
theorem lL{α:Type}{z:α}{f:D→D→α}{c:List D}:(∃a b,c= [a,b]∧wm z f c=f a b)∨(∀a b,c≠ [a,b])∧wm z f c=z:=by
 rcases c with _|⟨a,_|⟨b,_|⟨d,s⟩⟩⟩
 ·exact .inr ⟨fun a b h=>by simp at h,rfl⟩
 ·exact .inr ⟨fun a b h=>by simp at h,rfl⟩
 ·exact .inl ⟨a,b,rfl,rfl⟩
 ·exact .inr ⟨fun a b h=>by simp at h,rfl⟩
theorem iZ{c:List D}{r:List (List D)}(h: ∀a b,c≠ [a,b]):ax (c::r)=none:=by
 rcases c with _|⟨a,_|⟨b,_|⟨d,s⟩⟩⟩<;>first|rfl|exact absurd rfl (h _ _)
theorem mM: ∀(l:List (List D)),kV l=(ax l).isSome
 | []=>rfl
 |c::r=>by
  show wm false (fun _ _=>kV r) c=_;rcases lL (z:=false) (f:=fun _ _=>kV r) (c:=c)with⟨a,b,rfl,h⟩|⟨h1,h⟩
  ·rw[h,mM r];simp[ax]
  ·rw[h,iZ h1];rfl
theorem t_{ks:List Nat}{k:D}: ∀{es:List (D×D)} {j i:Nat},bu ks k es j=some (some i)→j≤i
 | [],_,_,h=>by simp[bu]at h
 |p::r,j,i,h=>by
  simp only[bu,Bz]at h;obtain⟨b,_,h⟩:=h;cases b with
  |true=>simp at h;omega
  |false=>have:=t_ (by simpa using h);omega
theorem EO{ks:List Nat}{k:D}: ∀{l:List (List D)} {es:List (D×D)} {j:Nat},ax l=some es→A8 ks k l=(bu ks k es j).bind fun r=>match r with
  |none=>some none
  |some i=>(es[i-j]?).map fun p=>some p.2
 | [],es,j,h=>by cases h;rfl
 |c::r,es,j,h=>by
  show wm none (fun a b=>gh (jt ks k a) fun e=>b9 e (b9 (kV r) (some (some b)) none) (A8 ks k r)) c=_;rcases lL (z:=none) (f:=fun a b=>gh (jt ks k a) fun e=>b9 e (b9 (kV r) (some (some b)) none) (A8 ks k r)) (c:=c)with⟨a,b,rfl,h1⟩|⟨h1,_⟩
  ·rw[h1];obtain⟨es',h2,rfl⟩:=Mz.1 (show(ax r).map ((a,b):: ·)=some es from h);rw[ct,um,mM,h2];simp only[bu,Option.bind_assoc];congr 1;funext e;cases e with
   |true=>simp[b9]
   |false=>
    rw[b6,if_neg (by simp),if_neg (by simp),EO (j:=j+1) h2];cases hf:bu ks k es' (j+1)with
    |none=>rfl
    |some o=>
     cases o with
     |none=>rfl
     |some i=>
      have:=t_ hf;simp only[Oz];rw[show i-j=(i-(j+1))+1 by omega,List.getElem?_cons_succ]
  ·rw[iZ h1]at h;cases h
theorem xd{ks:List Nat}{k:D}: ∀{l:List (List D)},ax l=none→A8 ks k l=none
 | [],h=>by cases h
 |c::r,h=>by
  show wm none (fun a b=>gh (jt ks k a) fun e=>b9 e (b9 (kV r) (some (some b)) none) (A8 ks k r)) c=_;rcases lL (z:=none) (f:=fun a b=>gh (jt ks k a) fun e=>b9 e (b9 (kV r) (some (some b)) none) (A8 ks k r)) (c:=c)with⟨a,b,rfl,h1⟩|⟨_,h1⟩
  ·rw[h1]
   have h2:ax r=none:=by
    cases hr:ax r with
    |none=>rfl
    |some es=>simp[ax,hr]at h
   rw[ct,mM,h2,xd h2];cases jt ks k a with
   |none=>rfl
   |some e=>cases e<;>rfl
  ·exact h1
theorem Fy{ks:List Nat}{k v:D}: ∀{l:List (List D)} {es:List (D×D)} {j:Nat},ax l=some es→B5 ks k v l=(bu ks k es j).bind fun r=>match r with
  |none=>some (ao (es++ [(k,v)]))
  |some i=>(es[i-j]?).map fun p=>ao (es.set (i-j) (p.1,v))
 | [],es,j,h=>by cases h;rfl
 |c::r,es,j,h=>by
  show wm none (fun a _=>gh (jt ks k a) fun e=>b9 e (b9 (kV r) (some ([a,v]::r)) none) (gh (B5 ks k v r) fun t=>some (c::t))) c=_;rcases lL (z:=none) (f:=fun a _=>gh (jt ks k a) fun e=>b9 e (b9 (kV r) (some ([a,v]::r)) none) (gh (B5 ks k v r) fun t=>some (c::t))) (c:=c)with⟨a,b,rfl,h1⟩|⟨h1,_⟩
  ·rw[h1];obtain⟨es',h2,rfl⟩:=Mz.1 (show(ax r).map ((a,b):: ·)=some es from h)
   have h3:ao es'=r:=by
    have: ∀{r:List (List D)} {es:List (D×D)},ax r=some es→ao es=r:=by
     intro r
     induction r with
     |nil=>intro es h;cases h;rfl
     |cons c r ih=>
      intro es h;rcases lL (z:=0) (f:=fun _ _=>1) (c:=c)with⟨a,b,rfl,_⟩|⟨h1,_⟩
      ·obtain⟨es',h2,rfl⟩:=Mz.1 (show(ax r).map ((a,b):: ·)=some es from h);show [a,b]::ao es'=_;rw[ih h2]
      ·rw[iZ h1]at h;cases h
    exact this h2
   rw[ct,um,mM,h2];simp only[bu,Option.bind_assoc];congr 1;funext e;cases e with
   |true=>simp[b9,ao]at h3⊢;exact h3.symm
   |false=>
    rw[b6,if_neg (by simp),if_neg (by simp),ct,Fy (j:=j+1) h2];cases hf:bu ks k es' (j+1)with
    |none=>rfl
    |some o=>
     cases o with
     |none=>rfl
     |some i=>
      have:=t_ hf;simp only[Oz];rw[show i-j=(i-(j+1))+1 by omega,List.getElem?_cons_succ];cases es'[i-(j+1)]? with
      |none=>rfl
      |some p=>rfl
  ·rw[iZ h1]at h;cases h
theorem xF{ks:List Nat}{k v:D}: ∀{l:List (List D)},ax l=none→B5 ks k v l=none
 | [],h=>by cases h
 |c::r,h=>by
  show wm none (fun a _=>gh (jt ks k a) fun e=>b9 e (b9 (kV r) (some ([a,v]::r)) none) (gh (B5 ks k v r) fun t=>some (c::t))) c=_;rcases lL (z:=none) (f:=fun a _=>gh (jt ks k a) fun e=>b9 e (b9 (kV r) (some ([a,v]::r)) none) (gh (B5 ks k v r) fun t=>some (c::t))) (c:=c)with⟨a,b,rfl,h1⟩|⟨_,h1⟩
  ·rw[h1]
   have h2:ax r=none:=by
    cases hr:ax r with
    |none=>rfl
    |some es=>simp[ax,hr]at h
   rw[ct,mM,h2,xF h2];cases jt ks k a with
   |none=>rfl
   |some e=>cases e<;>rfl
  ·exact h1
def BI(ks:List Nat)(k:D):Bool:=b9 k.uL (@Option.rec Bool (fun _=>Bool) false (fun b=>b) (jt ks k k)) false
theorem BJ(ks:List Nat)(k:D):BI ks k=decide (k.uL=true∧bR ks k k=some true):=by
 unfold BI;rw[b6,um];cases k.uL<;>cases h:bR ks k k with
 |none=>simp
 |some b=>cases b<;>simp
def XP(z:D)(ok:Bool)(o:Option D):Option D:= @Option.rec D (fun _=>Option D) (b9 ok (LS (.tup [z,bv false])) (LS z)) (fun b=>b9 ok (LS (.tup [b,bv true])) (LS b)) o
def I7(ks:List Nat)(z:D)(ok:Bool)(ds:List D):Option D:=BN (Aa ks z ok ds) (fun a k=>dList (Aa ks z ok ds) (fun rows=>b9 (BI ks k) (gh (A8 ks k rows) (XP z ok)) none) a) ds
theorem Gn(ks:List Nat)(z:D)(ok:Bool):I7 ks z ok=Aa ks z ok:=funext fun ds=>nq fun a k e=>mu fun rows e1=>by
 subst e e1;rw[b6,BJ];show _=(ax rows).bind fun es=>(jv ks z ok es k).bind fun d=>if d.aF then some d else none
 have hk: ∀d,LS d=if d.aF then some d else none:=fun d=>by unfold LS;rw[b6,tW]
 cases h:ax rows with
 |none=>rw[xd h];split<;>rfl
 |some es=>
  rw[EO (j:=0) h];simp only[Oz];unfold jv;by_cases hc:k.uL=true∧bR ks k k=some true
  ·rw[if_pos (by simpa using hc),if_pos hc,ct,Option.bind_assoc,Option.bind_assoc];congr 1;funext r;cases r with
   |none=>
    show XP z ok none=_;unfold XP;simp only[];rw[b6,hk,hk];cases ok<;>simp
   |some i=>
    simp only[Nat.sub_zero];cases es[i]? with
    |none=>rfl
    |some p=>
     show XP z ok (some p.2)=_;unfold XP;simp only[];rw[b6,hk,hk];cases ok<;>simp
  ·rw[if_neg (by simpa using hc),if_neg hc];rfl
def I8(ks:List Nat)(ds:List D):Option D:= @List.casesOn D (fun _=>Option D) ds none fun a r=>BN (mV ks ds) (fun k v=>dList (mV ks ds) (fun rows=>b9 (Nat.blt (sE rows 0) 1048576) (b9 (b9 v.uL (BI ks k) false) (gh (B5 ks k v rows) fun t=>some (.list t)) none) (mV ks ds)) a) r
theorem vE: ∀{l:List (List D)} {es:List (D×D)},ax l=some es→es.length=l.length
 | [],es,h=>by cases h;rfl
 |c::r,es,h=>by
  rcases lL (z:=0) (f:=fun _ _=>1) (c:=c)with⟨a,b,rfl,_⟩|⟨h1,_⟩
  ·obtain⟨es',h2,rfl⟩:=Mz.1 (show(ax r).map ((a,b):: ·)=some es from h);simp[vE h2]
  ·rw[iZ h1]at h;cases h
theorem Gp(ks:List Nat):I8 ks=mV ks:=funext fun ds=>by
 cases ds with
 |nil=>rfl
 |cons a r=>
  show BN (mV ks (a::r)) (fun k v=>dList (mV ks (a::r)) (fun rows=>b9 (Nat.blt (sE rows 0) 1048576) (b9 (b9 v.uL (BI ks k) false) (gh (B5 ks k v rows) fun t=>some (.list t)) none) (mV ks (a::r))) a) r=_;refine nq fun k v e=>mu fun rows e1=> ?_;subst e e1;rw[b6,iw,Nat.zero_add];split
  rotate_left
  ·rfl
  rename_i hlen;have hlen:rows.length<1048576:=by simpa[Nat.blt_eq]using hlen
  rw[b6,b6,BJ];show _=(ax rows).bind fun es=>(jw ks es k v).map fun es=>D.list (ao es);cases h:ax rows with
  |none=>rw[xF h];cases v.uL<;>simp[gh]
  |some es=>
   have hl:=vE h;rw[Fy (j:=0) h];simp only[Oz];unfold jw;by_cases hv:v.uL=true
   ·by_cases hc:k.uL=true∧bR ks k k=some true
    ·rw[if_pos (by simp[hv,hc]),if_pos ⟨hv,hc⟩,ct,Option.bind_assoc,Option.map_bind];congr 1;funext r;cases r with
     |none=>
      simp only[Oz,Function.comp_def];rw[if_pos (show es.length<aC from by rw[hl];exact hlen)];rfl
     |some i=>
      simp only[Nat.sub_zero,Function.comp_def];cases es[i]? with
      |none=>rfl
      |some p=>rfl
    ·rw[if_neg (by simp[hv,hc]),if_neg (fun h=>hc h.2)];rfl
   ·rw[if_neg (by simp[hv]),if_neg (fun h=>hv h.1)];rfl
def runK(G:FP)(k:XK):List D→Option D:=match k with
 | .pk k=>pkK k
 | .call fl f=>Dd G fl f
 | .cell j n=>I0 j n
 | .gv w=>XM w
 | .bq=>Oe
 | .eA=>I'
 | .take=>I_
 | .agg=>IX
 | .mget ks z ok=>I7 ks z ok
 | .mset ks=>I8 ks
 |k=>DE G k
theorem MP(G:FP)(k:XK):runK G k=DE G k:=by
 cases k<;>first|rfl|exact Um _|exact Gj _ _ _|exact Gl _ _|exact LR _|exact Bn|exact Gq|exact Gr|exact IY|exact Gn _ _ _|exact Gp _
end
noncomputable section
def Vy{α:Type}(v:D)(a b:Option α):Option α:=dV none (vB none fun x=>b9 x a b) v
theorem Hk{α:Type}(v:D)(a b:Option α):Vy v a b=v.asBool.bind fun x=>bif x then a else b:=by
 cases v<;>try rfl
 rename_i v;cases v<;>try rfl
 rename_i x;cases x<;>rfl
def JN(l:List D):List D→List D:= @List.rec D (fun _=>List D→List D) (fun acc=>acc) (fun a _ ih acc=>ih (a::acc)) l
theorem te: ∀(l acc:List D),JN l acc=l.reverse++acc
 | [],_=>rfl
 |a::r,acc=>by
  show JN r (a::acc)=_;rw[te r,List.reverse_cons,List.append_assoc];rfl
def kx(G:FP)(x:X):Nat→List D→Option D:=
 @X.rec (fun _=>Nat→List D→Option D) (fun _=>Nat→List D→Option (List D)) (fun i n E=>b9 (Nat.blt i n) (nth E (Nat.sub (Nat.sub n 1) i)) none) (fun d _ _=>some d) (fun k _ ih n E=>gh (ih n E) (runK G k))
  (fun _ _ _ hc ha hb n E=>gh (hc n E) fun v=>Vy v (ha n E) (hb n E)) (fun _ _=>some []) (fun _ _ hx hr n E=>gh (hx n E) fun d=>gh (hr n E) fun ds=>some (d::ds)) x
def Jd(G:FP)(xs:List X):Nat→List D→Option (List D):=
 @X.rec_1 (fun _=>Nat→List D→Option D) (fun _=>Nat→List D→Option (List D)) (fun i n E=>b9 (Nat.blt i n) (nth E (Nat.sub (Nat.sub n 1) i)) none) (fun d _ _=>some d) (fun k _ ih n E=>gh (ih n E) (runK G k))
  (fun _ _ _ hc ha hb n E=>gh (hc n E) fun v=>Vy v (ha n E) (hb n E)) (fun _ _=>some []) (fun _ _ hx hr n E=>gh (hx n E) fun d=>gh (hr n E) fun ds=>some (d::ds)) xs
mutual
theorem xk(G:FP)(E:List D): ∀(x:X),kx G x E.length E.reverse=EF G x E
 | .t i=>by
  show b9 (Nat.blt i E.length) (nth E.reverse (E.length-1-i)) none=nth E i;rw[oH,oH,b6];by_cases h:i<E.length
  ·rw[if_pos (by simpa[Nat.blt_eq]using h),List.getElem?_reverse (by omega)];congr 1;omega
  ·rw[if_neg (by simpa[Nat.blt_eq]using h)];simp at h⊢;omega
 | .q _=>rfl
 | .mk k xs=>by
  show gh (Jd G xs E.length E.reverse) (runK G k)=(lY G xs E).bind (DE G k);rw[qJ G E xs,ct,MP]
 | .ite c a b=>by
  show gh (kx G c E.length E.reverse) (fun v=>Vy v (kx G a E.length E.reverse) (kx G b E.length E.reverse))=(EF G c E).bind fun v=>v.asBool.bind fun x=>bif x then EF G a E else EF G b E
  rw[xk G E c,xk G E a,xk G E b,ct];congr 1;funext v;exact Hk _ _ _
theorem qJ(G:FP)(E:List D): ∀(xs:List X),Jd G xs E.length E.reverse=lY G xs E
 | []=>rfl
 |x::r=>by
  show gh (kx G x E.length E.reverse) (fun d=>gh (Jd G r E.length E.reverse) fun ds=>some (d::ds))=(EF G x E).bind fun d=>(lY G r E).bind fun ds=>some (d::ds);rw[xk G E x,qJ G E r,ct];congr 1;funext d;exact ct _ _
end
def itK{α β:Type}(F:(α→Option β)→α→Option β)(N:Nat):α→Option β:= @Nat.rec (fun _=>α→Option β) (fun _=>none) (fun _ ih=>F ih) N
theorem IT{α β:Type}(F:(α→Option β)→α→Option β): ∀N,itK F N=iter F N
 |0=>rfl
 |n+1=>by
  show F (itK F n)=F (iter F n);rw[IT F n]
def UM(x:X)(d:D):D:=b9 (fF d) d (bY x d)
theorem M6(x:X)(d:D):UM x d=bY x d:=by
 unfold UM;rw[b6,NP];split
 ·unfold bY;rw[if_pos (by assumption)]
 ·rfl
def TJ(x:X)(d:D):Option D:=b9 (fT d) (some (UM x d)) none
def KE(f:Nat→List D→Option D)(n:Nat)(E vs:List D):Option D:=SJ (sE vs n) fun m=>f m (JN vs E)
def kf(G:FP)(N:Nat)(t:FT):List (List D→Option D)→Nat→List D→Option D:=
 @FT.rec (fun _=>List (List D→Option D)→Nat→List D→Option D)
  (fun x _ n E=>gh (kx G x n E) (TJ x))
  (fun xs _ ih L n E=>gh (Jd G xs n E) fun _=>ih L n E)
  (fun xs _ ih L n E=>gh (Jd G xs n E) (KE (ih L) n E))
  (fun c _ _ ha hb L n E=>gh (kx G c n E) fun v=>Vy v (ha L n E) (hb L n E))
  (fun xs _ ih L n E=>gh (Jd G xs n E) (itK (fun rec vs=>KE (ih (rec::L)) n E vs) N))
  (fun j xs L n E=>gh (Jd G xs n E) fun ds=>gh (Du j L) fun f=>f ds)
  (fun _ _ hk hb L n E=>hb (KE (hk L) n E::L) n E)
  (fun _ _ _ _=>none) (fun _ _ _ _ _=>none) t
theorem Dc(f:Nat→List D→Option D)(g:List D→Option D)(h: ∀E:List D,f E.length E.reverse=g E)(E vs:List D):KE f E.length E.reverse vs=g (E++vs):=by
 unfold KE;rw[qs,iw,te,←h (E++vs),List.length_append,List.reverse_append]
theorem EZ(G:FP)(N:Nat): ∀(t:FT) (L:List (List D→Option D)) (E:List D),kf G N t L E.length E.reverse=sR G N t L E:=by
 intro t
 induction t with
 |ret x=>
  intro L E;show gh (kx G x E.length E.reverse) (TJ x)=(EF G x E).bind fun d=>bif d.aF then some (bY x d)else none
  rw[xk,ct];congr 1;funext d;unfold TJ;rw[tW,M6];cases d.aF<;>rfl
 |fM xs k ih=>
  intro L E;show gh (Jd G xs E.length E.reverse) (fun _=>kf G N k L E.length E.reverse)=(lY G xs E).bind fun _=>sR G N k L E;rw[qJ,ct,ih]
 |lets xs k ih=>
  intro L E;show gh (Jd G xs E.length E.reverse) (KE (kf G N k L) E.length E.reverse)=(lY G xs E).bind fun ds=>sR G N k L (E++ds);rw[qJ,ct];congr 1;funext ds;exact Dc _ _ (ih L) E ds
 |ite c a b iha ihb=>
  intro L E;show gh (kx G c E.length E.reverse) (fun v=>Vy v (kf G N a L E.length E.reverse) (kf G N b L E.length E.reverse))=(EF G c E).bind fun v=>v.asBool.bind fun x=>bif x then sR G N a L E else sR G N b L E
  rw[xk,ct,iha,ihb];congr 1;funext v;exact Hk _ _ _
 |loop xs k ih=>
  intro L E;show gh (Jd G xs E.length E.reverse) (itK (fun rec vs=>KE (kf G N k (rec::L)) E.length E.reverse vs) N)=(lY G xs E).bind fun ds=>iter (fun rec vs=>sR G N k (rec::L) (E++vs)) N ds;rw[qJ,ct,IT]
  have e:(fun(rec:List D→Option D) vs=>KE (kf G N k (rec::L)) E.length E.reverse vs)=fun rec vs=>sR G N k (rec::L) (E++vs):=by
   funext rec vs;exact Dc _ _ (ih (rec::L)) E vs
  rw[e]
 |next j xs=>
  intro L E;show gh (Jd G xs E.length E.reverse) (fun ds=>gh (Du j L) fun f=>f ds)=(lY G xs E).bind fun ds=>(L[j]?).bind fun f=>f ds;rw[qJ,ct];congr 1;funext ds;rw[ct,yV]
 |jp k b ihk ihb=>
  intro L E;show kf G N b (KE (kf G N k L) E.length E.reverse::L) E.length E.reverse=sR G N b ((fun vs=>sR G N k L (E++vs))::L) E
  have e:KE (kf G N k L) E.length E.reverse=fun vs=>sR G N k L (E++vs):=by
   funext vs;exact Dc _ _ (ihk L) E vs
  rw[ihb,e]
 |st Y=>intro L E;rfl
 |bad w Y=>intro L E;rfl
def IU(G:FP)(N f:Nat)(ds:List D)(q:Nat×FT):Option D:=b9 (Nat.beq (sE ds 0) q.1) (b9 (gq fT ds) (b9 (Nat.blt f 1000000) (SJ (sE ds 0) fun m=>kf G N q.2 [] m (JN ds [])) none) none) none
def iE(T:Nat→Option (Nat×FT))(H:FP)(N k:Nat):FP:=
 @Nat.rec (fun _=>FP) (fun _ _=>none) (fun _ ih f ds=> @Option.rec D (fun _=>Option D) (gh (T f) (IU ih N f ds)) some (H f ds)) k
theorem CO(T:Nat→Option (Nat×FT))(H:FP)(N:Nat): ∀k,iE T H N k=Lp T H N k
 |0=>rfl
 |k+1=>by
  funext f ds;show @Option.rec D (fun _=>Option D) (gh (T f) (IU (iE T H N k) N f ds)) some (H f ds)=(H f ds).casesOn ((T f).bind fun q=>bif Nat.beq ds.length q.1&&ds.all D.aF&&Nat.blt f 1000000 then sR (Lp T H N k) N q.2 [] ds else none) some;rw[ct,CO T H N k];congr 1;congr 1;funext q;unfold IU;have h:=EZ (Lp T H N k) N q.2 [] ds;rw[qs,iw,Nat.zero_add,te,List.append_nil,h,dW,tW];cases Nat.beq ds.length q.1<;>cases ds.all D.aF<;>cases Nat.blt f 1000000<;>rfl
def Ar(x y:Value):Bool:=vI (qi x y) (fun k a=>vI (qi x y) (fun k' b=>b9 (Ln k k') (Wi a b) false) y) x
theorem Hw{x y:Value}(h:Ar x y=true):x=y:=by
 have key:Ar x y=qi x y:=sf fun k a e1=>sf fun k' b e2=>by
  subst e1 e2;rw[EE,CM,b6];show _=decide (k=k'∧a=b)
  grind
 rw[key]at h;exact wT h
def Sn{α:Type}(z:α)(f:Nat→List D→α)(d:D):α:= @D.casesOn (fun _=>α) d z (fun _=>z) z z (fun _=>z) (fun _=>z) (fun _=>z) (fun _=>z) f (fun _ _ _ _ _=>z) (fun _ _=>z) (fun _ _ _ _=>z) (fun _=>z) z (fun _=>z)
def Tu(d:D):Bool:= @D.casesOn (fun _=>Bool) d false (fun _=>false) true false (fun _=>false) (fun _=>false) (fun _=>false) (fun _=>false) (fun _ _=>false) (fun _ _ _ _ _=>false) (fun _ _=>false) (fun _ _ _ _=>false) (fun _=>false) false (fun _=>false)
def Tt(d:D):Bool:= @D.casesOn (fun _=>Bool) d false (fun _=>false) false true (fun _=>false) (fun _=>false) (fun _=>false) (fun _=>false) (fun _ _=>false) (fun _ _ _ _ _=>false) (fun _ _=>false) (fun _ _ _ _=>false) (fun _=>false) false (fun _=>false)
def Tv(d:D):Bool:= @D.casesOn (fun _=>Bool) d false (fun _=>false) false false (fun _=>false) (fun _=>false) (fun _=>false) (fun _=>false) (fun _ _=>false) (fun _ _ _ _ _=>false) (fun _ _=>false) (fun _ _ _ _=>false) (fun _=>false) true (fun _=>false)
def Am(a:D):D→Bool:=
 @D.rec (fun _=>D→Bool) (fun _=>List (List D)→Bool) (fun _=>List D→Bool) (fun _=>false) (fun x=>dV false (Ar x)) Tu Tt (fun _ ih=>dList false ih) (fun _ ih=>oZ false ih) (fun _ ih=>FW false ih) (fun _ ih=>wW false ih)
  (fun f _ ih=>Sn false fun g ys=>b9 (Nat.beq f g) (ih ys) false) (fun _ _ _ _ _ _=>false) (fun _ _ _=>false) (fun _ _ _ _ _=>false) (fun _ _=>false) Tv (fun _ _ _=>false)
  (fun b=>b.casesOn true fun _ _=>false) (fun _ _ h t b=>b.casesOn false fun y s=>b9 (h y) (t s) false) (fun b=>b.casesOn true fun _ _=>false) (fun _ _ h t b=>b.casesOn false fun y s=>b9 (h y) (t s) false) a
def Ht(a:List (List D)):List (List D)→Bool:=
 @D.rec_1 (fun _=>D→Bool) (fun _=>List (List D)→Bool) (fun _=>List D→Bool) (fun _=>false) (fun x=>dV false (Ar x)) Tu Tt (fun _ ih=>dList false ih) (fun _ ih=>oZ false ih) (fun _ ih=>FW false ih) (fun _ ih=>wW false ih)
  (fun f _ ih=>Sn false fun g ys=>b9 (Nat.beq f g) (ih ys) false) (fun _ _ _ _ _ _=>false) (fun _ _ _=>false) (fun _ _ _ _ _=>false) (fun _ _=>false) Tv (fun _ _ _=>false)
  (fun b=>b.casesOn true fun _ _=>false) (fun _ _ h t b=>b.casesOn false fun y s=>b9 (h y) (t s) false) (fun b=>b.casesOn true fun _ _=>false) (fun _ _ h t b=>b.casesOn false fun y s=>b9 (h y) (t s) false) a
def Eu(a:List D):List D→Bool:=
 @D.rec_2 (fun _=>D→Bool) (fun _=>List (List D)→Bool) (fun _=>List D→Bool) (fun _=>false) (fun x=>dV false (Ar x)) Tu Tt (fun _ ih=>dList false ih) (fun _ ih=>oZ false ih) (fun _ ih=>FW false ih) (fun _ ih=>wW false ih)
  (fun f _ ih=>Sn false fun g ys=>b9 (Nat.beq f g) (ih ys) false) (fun _ _ _ _ _ _=>false) (fun _ _ _=>false) (fun _ _ _ _ _=>false) (fun _ _=>false) Tv (fun _ _ _=>false)
  (fun b=>b.casesOn true fun _ _=>false) (fun _ _ h t b=>b.casesOn false fun y s=>b9 (h y) (t s) false) (fun b=>b.casesOn true fun _ _=>false) (fun _ _ h t b=>b.casesOn false fun y s=>b9 (h y) (t s) false) a
theorem cS{a b:Bool}(h:b9 a b false=true):a=true∧b=true:=by cases a<;>cases b<;>first|exact⟨rfl,rfl⟩|cases h
mutual
theorem mW: ∀{a b:D},Am a b=true→a=b
 | .undef,_,h=>by cases h
 | .v x,b,h=>by
  cases b<;>try (cases h;done)
  exact congrArg _ (Hw h)
 | .nil,b,h=>by cases b<;>first|rfl|cases h
 | .mt,b,h=>by cases b<;>first|rfl|cases h
 | .nilmap,b,h=>by cases b<;>first|rfl|cases h
 | .list es,b,h=>by
  cases b<;>try (cases h;done)
  exact congrArg _ (wS (a:=es) h)
 | .agg es,b,h=>by
  cases b<;>try (cases h;done)
  exact congrArg _ (ku (a:=es) h)
 | .tup es,b,h=>by
  cases b<;>try (cases h;done)
  exact congrArg _ (ku (a:=es) h)
 | .lptr es,b,h=>by
  cases b<;>try (cases h;done)
  exact congrArg _ (ku (a:=es) h)
 | .clo f es,b,h=>by
  cases b<;>try (cases h;done)
  rename_i g ys
  replace h:b9 (Nat.beq f g) (Eu es ys) false=true:=h
  rw[Nat.eq_of_beq_eq_true (cS h).1,ku (cS h).2]
 | .sl ..,_,h=>by cases h
 | .ptr ..,_,h=>by cases h
 | .rptr ..,_,h=>by cases h
 | .mp ..,_,h=>by cases h
 | .fm ..,_,h=>by cases h
theorem ku: ∀{a b:List D},Eu a b=true→a=b
 | [],[],_=>rfl
 | [],_::_,h=>by cases h
 |_::_,[],h=>by cases h
 |x::r,y::s,h=>by
  replace h:b9 (Am x y) (Eu r s) false=true:=h
  rw[mW (cS h).1,ku (cS h).2]
theorem wS: ∀{a b:List (List D)},Ht a b=true→a=b
 | [],[],_=>rfl
 | [],_::_,h=>by cases h
 |_::_,[],h=>by cases h
 |x::r,y::s,h=>by
  replace h:b9 (Eu x y) (Ht r s) false=true:=h
  rw[ku (cS h).1,wS (cS h).2]
end
end
noncomputable section
def FC:List Nat→List cV→List cV
 | [],_=> []
 |g::r,es=>match es.drop g with
  |e::s=>e::FC r s
  | []=> []
theorem xL: ∀{gs:List Nat} {l:List cV} {e:cV},e∈FC gs l→e∈l
 | [],_,_,h=>by cases h
 |g::r,l,e,h=>by
  unfold FC at h;split at h
  ·rename_i a s hd;have hs: ∀x,x∈a::s→x∈l:=fun x hx=>by rw[←hd]at hx;exact List.mem_of_mem_drop hx
   rcases List.mem_cons.1 h with rfl|h
   ·grind
   ·exact hs _ (Cz _ (xL h))
  ·cases h
abbrev g_:=List (Nat×List cV×List Nat)
def aZ:g_→KT
 | []=> []
 |(f,l,gs)::r=>(f,FC gs l)::aZ r
def KOK(P:Program)(f:Nat)(ds:List D)(r:D):Prop:=(f<1000000∧Vx P f ds r)∨ ∃e g es,g<1000000∧f=1000001000000+(1000000*e+g)∧r= .list es∧VCa P g e ds es
def KT.Cn(P:Program)(l:KT):Prop:= ∀p∈l,∀e∈p.2,KOK P p.1 e.ds e.r
def fg(P:Program)(f:Nat)(l:List cV):Prop:= ∀e∈l,KOK P f e.ds e.r
def j_(P:Program):g_→Prop
 | []=>True
 |(f,l,_)::r=>fg P f l∧j_ P r
theorem j_.nil{P:Program}:j_ P []:=trivial
theorem j_.cons{P:Program}{f:Nat}{l:List cV}{gs:List Nat}{r:g_}(h:fg P f l)(k:j_ P r):j_ P ((f,l,gs)::r):=⟨h,k⟩
theorem yZ{P:Program}: ∀{s:g_},j_ P s→(aZ s).Cn P
 | [],_=>fun p hp=>by cases hp
 |(f,l,gs)::r,h=>fun p hp e he=>by
  rcases List.mem_cons.1 hp with rfl|hp
  ·exact h.1 e (xL he)
  ·exact yZ h.2 p hp e he
def Et(a:List D):List D→Bool:= @List.rec D (fun _=>List D→Bool) (fun b=>b.casesOn true fun _ _=>false) (fun a _ ih b=>b.casesOn false fun y s=>b9 (ih s) (Am a y) false) a
theorem An: ∀{a b:List D},Et a b=true→a=b
 | [],[],_=>rfl
 | [],_::_,h=>by cases h
 |_::_,[],h=>by cases h
 |x::r,y::s,h=>by
  rw[An (cS h).1,mW (cS h).2]
def B0(ds:List D)(z:Option D)(es:List cV):Option D:= @List.rec cV (fun _=>Option D) z (fun e _ ih=>b9 (Et e.ds ds) (some e.r) ih) es
theorem B3{ds:List D}{z:Option D}{d:D}: ∀{es:List cV},B0 ds z es=some d→(∃e∈es,e.ds=ds∧e.r=d)∨z=some d
 | [],h=> .inr h
 |e::r,h=>by
  replace h:b9 (Et e.ds ds) (some e.r) (B0 ds z r)=some d:=h
  cases hb:Et e.ds ds with
  |true=>rw[hb]at h;cases h;exact .inl ⟨e,List.mem_cons_self ..,An hb,rfl⟩
  |false=>rw[hb]at h;exact(B3 h).imp (fun⟨e,he,k⟩=>⟨e,Cz _ he,k⟩) id
def eh(l:KT)(H:FP)(f:Nat)(ds:List D):Option D:= @List.rec (Nat×List cV) (fun _=>Option D) (H f ds) (fun p _ ih=>b9 (Nat.beq p.1 f) (B0 ds (H f ds) p.2) ih) l
theorem Df{H:FP}{f:Nat}{ds:List D}{d:D}: ∀{l:KT},eh l H f ds=some d→(∃p∈l,p.1=f∧ ∃e∈p.2,e.ds=ds∧e.r=d)∨H f ds=some d
 | [],h=> .inr h
 |p::r,h=>by
  replace h:b9 (Nat.beq p.1 f) (B0 ds (H f ds) p.2) (eh r H f ds)=some d:=h
  cases hb:Nat.beq p.1 f with
  |true=>rw[hb]at h;exact(B3 h).imp (fun⟨e,he⟩=>⟨p,List.mem_cons_self ..,Nat.eq_of_beq_eq_true hb,e,he⟩) id
  |false=>rw[hb]at h;exact(Df h).imp (fun⟨q,hq,k⟩=>⟨q,Cz _ hq,k⟩) id
theorem qI{P:Program}{H:FP}{l:KT}(hH:Sound P (br H))(hl:l.Cn P):Sound P (br (eh l H)):=by
 have key: ∀{f:Nat} {ds:List D} {d:D},eh l H f ds=some d→KOK P f ds d∨H f ds=some d:=fun{f ds d} h=>(Df h).imp (fun⟨p,hp,h1,e,he,h2,h3⟩=>by
  subst h1 h2 h3;exact hl p hp e he) id
 refine⟨fun f ds d hlt h=> ?_,fun k f ds r hlt h6 h=> ?_,fun e f ds r hlt h=> ?_⟩
 ·rcases key (show eh l H f ds=some d from h)with(h|⟨e,g,es,_,h,_⟩)|h
  ·grind
  ·omega
  ·exact hH.p f ds d hlt h
 ·rcases key (show eh l H (1000000+(1000000*k+f)) ds=some r from h)with(h|⟨e,g,es,_,h,_⟩)|h
  ·omega
  ·omega
  ·exact hH.e k f ds r hlt h6 h
 ·obtain⟨d,hd,rfl⟩:=Mz.1 (show(eh l H (1000001000000+(1000000*e+f)) ds).map _=some r from h);rcases key hd with(hd|⟨e',g,es,hg,hk,rfl,hv⟩)|hd
  ·omega
  ·have he:e=e':=by omega
   have hf:f=g:=by omega
   subst he hf;exact⟨es,rfl,hv⟩
  ·exact hH.q e f ds _ hlt (show Option.map _ _=_ by rw[hd];rfl)
def SB(a b:D):Bool:=b9 a.eD (b9 b.eD (Am a.bare b.bare) false) (Am a b)
theorem Lo{a b:D}(h:SB a b=true):a=b:=by
 have own: ∀{x:D},x.eD=true→x=x.bare.own:=fun{x} hx=>by
  unfold D.eD at hx;split at hx
  ·rfl
  ·cases hx
 unfold SB at h;cases ha:a.eD with
 |true=>
  rw[ha]at h;have h:=cS (show b9 b.eD (Am a.bare b.bare) false=true from h);rw[own ha,own h.1,mW h.2]
 |false=>rw[ha]at h;exact mW h
def Wb(G:FP)(f:Nat)(l:List cV):Bool:= @List.rec cV (fun _=>Bool) true (fun e _ ih=>b9 (@Option.rec D (fun _=>Bool) false (fun d=>SB d e.r) (G f e.ds)) ih false) l
theorem EA{G:FP}{f:Nat}: ∀{l:List cV},Wb G f l=true→ ∀e∈l,G f e.ds=some e.r
 | [],_,e,he=>by cases he
 |e::r,h,e',he=>by
  rcases List.mem_cons.1 he with rfl|he
  ·have h:=(cS h).1;cases hg:G f e'.ds with
   |none=>rw[hg]at h;cases h
   |some d=>rw[hg]at h;rw[Lo h]
  ·exact EA (cS h).2 e' he
def chunk(G:FP)(f lo n:Nat)(l:List cV):Bool:=b9 (Nat.blt f 1000000) (Wb G f ((l.drop lo).take n)) false
theorem Aw{P:Program}{C:Cx}{H:FP}{N k:Nat}{r:Tr}(hP:C.P=P)(hH:Sound P (br H))(hm:P.follows .mixedOrders=true)(hr:r.RU C){s:g_}(hs:j_ P s){f lo n:Nat}{l:List cV}
  (h:chunk (iE r.get (eh (aZ s) H) N k) f lo n l=true):fg P f ((l.drop lo).take n):=fun e he=>by
 have h2:f<1000000:=by simpa[Nat.blt_eq]using(cS h).1
 have h3:=EA (cS h).2 e he;rw[CO]at h3;exact .inl ⟨h2,(kh hP (qI hH (yZ hs)) hm k).p f e.ds e.r h2 (CN hr k _ _ _ h3)⟩
theorem fg.join{P:Program}{f lo n:Nat}{l:List cV}(h:fg P f ((l.drop lo).take n))(k:fg P f (l.drop (lo+n))):fg P f (l.drop lo):=fun e he=>by
 rw[←List.take_append_drop n (l.drop lo),List.mem_append,List.drop_drop]at he;exact he.elim (h e) (k e)
theorem fg.fin{P:Program}{f lo n:Nat}{l:List cV}(h:fg P f ((l.drop lo).take n))(k:Nat.ble l.length (lo+n)=true):fg P f (l.drop lo):=fun e he=>by
 rw[List.take_of_length_le (by have:=Nat.le_of_ble_eq_true k;simp;omega)]at h;exact h e he
end
noncomputable section
def okA(C:Cx)(e f n:Nat)(t:FT):Bool:=match EC C e f with
 |some q=>Nat.beq q.1 n&&e9 (cse (K_ q.1) q.2) t
 |none=>false
def OKA(C:Cx)(e f n:Nat)(t:FT):Prop:= ∃t0,EC C e f=some (n,t0)∧cse (K_ n) t0=t
theorem Uk{C:Cx}{e f n:Nat}{t:FT}(h:okA C e f n t=true):OKA C e f n t:=by
 unfold okA at h;split at h
 ·rename_i q hq;obtain⟨m,t0⟩:=q;simp only[Az]at h;obtain rfl:=Nat.eq_of_beq_eq_true h.1;exact⟨t0,hq,fP _ _ h.2⟩
 ·cases h
def sd:FT→FT
 | .ret (.mk .own [x])=> .ret x
 | .fM xs k=> .fM xs (sd k)
 | .lets xs k=> .lets xs (sd k)
 | .ite c a b=> .ite c (sd a) (sd b)
 | .loop xs k=> .loop xs (sd k)
 | .jp k b=> .jp (sd k) (sd b)
 |t=>t
def JP(r:D):Bool:=match r with
 | .list es=> !es.isEmpty&&es.all fun c=>c.all D.aW
 |_=>false
def Sg(G:FP)(N n:Nat)(t:FT)(l:List cV):Bool:= @List.rec cV (fun _=>Bool) true
 (fun e _ ih=>b9 (b9 (Nat.beq (sE e.ds 0) n) (b9 (gq fT e.ds) (b9 (JP e.r) (@Option.rec D (fun _=>Bool) false (fun d=>Am d.bare e.r) (SJ (sE e.ds 0) fun m=>kf G N t [] m (JN e.ds []))) false) false) false) ih false) l
theorem Ey{G:FP}{N n:Nat}{t:FT}: ∀{l:List cV},Sg G N n t l=true→ ∀e∈l,(e.ds.length=n∧e.ds.all D.aF=true)∧JP e.r=true∧(ae G N t [] e.ds).map D.bare=some e.r
 | [],_,e,he=>by cases he
 |e::r,h,e',he=>by
  rcases List.mem_cons.1 he with rfl|he
  ·have h:=(cS h).1;obtain⟨h1,h⟩:=cS h;obtain⟨h2,h⟩:=cS h;obtain⟨h3,h⟩:=cS h;rw[qs,iw,te,List.append_nil]at h;rw[iw]at h1;simp only[Nat.zero_add]at h h1;rw[EZ,oz]at h;rw[dW,tW]at h2;refine⟨⟨Nat.eq_of_beq_eq_true h1,h2⟩,h3, ?_⟩;cases hg:ae G N t [] e'.ds with
   |none=>rw[hg]at h;cases h
   |some d=>rw[hg]at h;rw[Pz,mW h]
  ·exact Ey (cS h).2 e' he
theorem yd{P:Program}{C:Cx}{H:FP}{N k e f n:Nat}{t:FT}{r:Tr}(hP:C.P=P)(hH:Sound P (br H))(hm:P.follows .mixedOrders=true)(hr:r.RU C)(ht:OKA C e f n t)(hf:f<1000000){s:g_}(hs:j_ P s){l:List cV}
  (h:Sg (iE r.get (eh (aZ s) H) N k) N n t l=true):fg P (1000001000000+(1000000*e+f)) l:=fun x hx=>by
 obtain⟨⟨h1,h2⟩,h3,h4⟩:=Ey h x hx;obtain⟨t0,k1,k2⟩:=ht;rw[CO]at h4;obtain⟨d,g1,g2⟩:=Mz.1 h4;obtain⟨ds,rr⟩:=x;cases rr<;>first|(cases h3;done)|skip
 rename_i es;obtain⟨g3,g4⟩:(!es.isEmpty)=true∧(es.all fun c=>c.all D.aW)=true:=by simpa[JP]using h3
 refine .inr ⟨e,f,es,hf,rfl,rfl, ?_⟩;obtain⟨k0,hk⟩:=fU (G:=Lp r.get (eh (aZ s) H) N k) (Gk:=fun _=>Gs C (eh (aZ s) H) N k) (fun f ds d h=>⟨0,fun _ _=>CN hr k f ds d h⟩) (Lk:=fun _=> []) t (fun j f hf=>by simp at hf) g1;have h5:ae (Gs C (eh (aZ s) H) N k) N t0 [] ds=some d:=yf (q:=(n,t0)) h1 (by rw[←k2]at hk;exact hk k0 (Nat.le_refl _));exact AB hP (qI hH (yZ hs)) hm k1 h1 h2 (fun e=>by rw[e]at g3;cases g3) g4 (by rw[h5,Pz,g2])
theorem KT.Cn.nil{P:Program}:KT.Cn P []:=fun p hp=>by cases hp
theorem KT.Cn.cons{P:Program}{f:Nat}{l:List cV}{r:KT}(h:fg P f l)(k:KT.Cn P r):KT.Cn P ((f,l)::r):=fun p hp=>(List.mem_cons.1 hp).elim (fun e=>by subst e;exact h) (k p)
end
section
open Go.ChangeShapes Go.WideShapes Go.ChangeAt Go.RowKit
set_option linter.unusedVariables false
def bH(P:Program):Nat→TypeId→List D→Prop
 |0,_,_=>False
 |n+1,t,ds=>match P.underlying t with
  |some .bool=> ∃b,ds= [bv b]
  |some (.int k)=> ∃z,ds= [.v (.int k z)]∧(Lit.int k z).wf=true
  |some .string=> ∃s:ByteArray,ds= [.v (.string s)]∧s.size≤maxLen
  |some (.slice e)=> ∃es,ds= [.list es]∧es.length≤maxLen∧ ∀c∈es,bH P n e c
  |some (.struct fs)=>ds.length=P.cellsOf t∧ ∀f∈fs.toList,bH P n f.type ((ds.drop f.offset).take (P.cellsOf f.type))
  |some (.array m e)=>ds.length=P.cellsOf t∧ ∀i,i<m→bH P n e ((ds.drop (i*P.cellsOf e)).take (P.cellsOf e))
  |_=>False
def uM(P:Program):Nat→TypeId→Bool
 |0,_=>false
 |n+1,t=>match P.underlying t with
  |some .bool|some (.int _)|some .string=>true
  |some (.slice e)=>decide (0<P.cellsOf e)&&uM P n e
  |some (.struct fs)=>fs.toList.all fun f=>uM P n f.type
  |some (.array _ e)=>uM P n e
  |_=>false
def lX(w:World)(cs:List Value)(ds:List D):Prop:=cs.length=ds.length∧ ∀(j:Nat) (c:Value) (d:D),cs[j]?=some c→ds[j]?=some d→c.oneCell'=true∧aj w (eZ w) aA c d
theorem lX.nil{w:World}:lX w [] []:=⟨rfl,fun j c d h=>by simp at h⟩
theorem lX.one{w:World}{c:Value}{d:D}(h1:c.oneCell'=true)(h2:aj w (eZ w) aA c d):lX w [c] [d]:=
 ⟨rfl,fun j c' d' hc hd=>by
  cases j with
  |zero=>simp only[List.getElem?_cons_zero,Jz]at hc hd;subst hc;subst hd;exact⟨h1,h2⟩
  |succ j=>simp at hc⟩
theorem lX.append{w:World}{a b:List Value}{x y:List D}(h:lX w a x)(k:lX w b y):lX w (a++b) (x++y):=by
 refine⟨by simp[h.1,k.1],fun j c d hc hd=> ?_⟩;by_cases hj:j<a.length
 ·rw[Yz hj]at hc;rw[Yz (by rw[←h.1];exact hj)]at hd;exact h.2 j c d hc hd
 ·rw[Xz (by omega)]at hc;rw[Xz (by rw[←h.1];omega),←h.1]at hd;exact k.2 _ c d hc hd
theorem J6 (cell : Nat → Nat) : ∀ m k, k ≤ m → ((List.range k).map cell).sum ≤ ((List.range m).map cell).sum
  | 0, k, hk => by have : k = 0 := by omega
                   subst this; exact Nat.le_refl _
  | m + 1, k, hk => by
    by_cases h : k ≤ m
    · have := J6 cell m k h
      simp only [List.range_succ, List.map_append, List.sum_append, List.map_cons, List.map_nil, List.sum_cons, List.sum_nil]
      omega
    · have : k = m + 1 := by omega
      subst this; exact Nat.le_refl _
theorem vm{α:Type}(g:α→Nat)(x0:α): ∀(l:List α) (j:Nat),j≤l.length→((l.take j).map g).sum=((List.range j).map fun i=>g (l.getD i x0)).sum
 |l,0,_=>by simp
 |l,j+1,h=>by
  rw[List.take_succ_eq_append_getElem (by omega),List.map_append,List.sum_append,vm g x0 l j (by omega),List.range_succ,List.map_append,List.sum_append];simp[List.getD,show j<l.length by omega]
theorem nD(c:Nat): ∀m,((List.range m).map fun _=>c).sum=m*c
 |0=>by simp
 |m+1=>by simp[List.range_succ,nD c m,Nat.succ_mul]
theorem qP{w:World}(Q:Nat→List D→Prop)(cell off:Nat→Nat)(cs:List Value): ∀(m:Nat),(∀i,i<m→off i=((List.range i).map cell).sum)→((List.range m).map cell).sum≤cs.length→
  (∀i,i<m→ ∃ds,Q i ds∧lX w ((cs.drop (off i)).take (cell i)) ds)→
  ∃ds,lX w (cs.take ((List.range m).map cell).sum) ds∧ ∀i,i<m→Q i ((ds.drop (off i)).take (cell i))
 |0,_,_,_=>⟨[],by simpa using lX.nil,fun i hi=>by omega⟩
 |m+1,sq,hlen,h=>by
  have hs:((List.range (m+1)).map cell).sum=((List.range m).map cell).sum+cell m:=by simp[List.range_succ]
  rw[hs]at hlen⊢;obtain⟨ds,h1,h2⟩:=qP Q cell off cs m (fun i hi=>sq i (by omega)) (by omega) fun i hi=>h i (by omega);obtain⟨dl,h3,h4⟩:=h m (by omega);have ho:=sq m (by omega);have hdl:=h1.1;have hl4:=h4.1;simp only[List.length_take,List.length_drop]at hdl hl4;refine⟨ds++dl, ?_,fun i hi=> ?_⟩
  ·have e:cs.take (((List.range m).map cell).sum+cell m)=cs.take ((List.range m).map cell).sum++(cs.drop (off m)).take (cell m):=by
    rw[List.take_add,←ho]
   rw[e];exact h1.append h4
  ·by_cases hm:i<m
   ·have h5:=h2 i hm;have h6:=J6 cell m (i+1) (by omega);have e2:((List.range (i+1)).map cell).sum=((List.range i).map cell).sum+cell i:=by simp[List.range_succ]
    have h7:=sq i (by omega)
    rwa[List.drop_append_of_le_length (by omega),List.take_append_of_le_length (by simp;omega)]
   ·obtain rfl:i=m:=by omega
    have e1:off i=ds.length:=by omega
    rw[e1,List.drop_left,List.take_of_length_le (by omega)];exact h3
theorem rQ{α:Type}(R:Nat→α→Prop): ∀n,(∀i,i<n→ ∃x,R i x)→ ∃l:List α,l.length=n∧ ∀i x,l[i]?=some x→R i x
 |0,_=>⟨[],rfl,fun i x h=>by simp at h⟩
 |n+1,h=>by
  obtain⟨l,h1,h2⟩:=rQ R n fun i hi=>h i (by omega);obtain⟨x,hx⟩:=h n (by omega);refine⟨l++ [x],by simp[h1],fun i y hy=> ?_⟩;by_cases hi:i<l.length
  ·rw[Yz hi]at hy;exact h2 i y hy
  ·rw[Xz (by omega)]at hy
   have hi':i-l.length=0:=by
    have:=(Gz.1 hy).1;simp at this;omega
   rw[hi']at hy;simp only[List.getElem?_cons_zero,Jz]at hy;subst hy;have:i=n:=by omega
   subst this;exact hx
section
variable {H : Type} {enc : TypeId × Value → H} {P : Program} {w : World} {held : Bool}
theorem Kf(hl:laidOutB P=true): ∀(n:Nat) (t:TypeId) (fuel:Nat) (cs:List Value) (x:DataW H×List MemPlace),t<P.types.size→uM P n t=true→
  DataW.trod enc P w 0 (fun _=>true) held fuel t cs=some x→ ∃ds,bH P n t ds∧lX w cs ds:=by
 intro n
 induction n with
 |zero=>intro t fuel cs x _ hk;simp[uM]at hk
 |succ n ih=>
  intro t fuel cs x ht hk h;simp only[uM]at hk;cases hu:P.underlying t with
  |none=>rw[hu]at hk;cases hk
  |some ty=>
   rw[hu]at hk;cases ty<;>simp only[]at hk<;>try (cases hk;done)
   case bool=>
    obtain⟨b,rfl,_⟩:=DataW.trod_bool hu h;exact⟨[bv b],by simp[bH,hu],lX.one rfl (.v rfl)⟩
   case int k=>
    obtain⟨z,rfl,_,hz⟩:=DataW.trod_int hu h;exact⟨[.v (.int k z)],by simp[bH,hu,hz],lX.one rfl (.v rfl)⟩
   case string=>
    obtain⟨s,rfl,_,hz⟩:=DataW.trod_string hu h;exact⟨[.v (.string s)],by simp[bH,hu,hz],lX.one rfl (.v rfl)⟩
   case slice e=>
    simp only[Az,decide_eq_true_eq]at hk;obtain⟨su,hk⟩:=hk;have he:=kid_slice hl ht hu;rcases DataW.trod_slice hu h with⟨rfl,rfl⟩|⟨a,len,cap,elems,rest,m,rfl,rfl,rfl,_,hlc,hcm,hlen,hel,_,_⟩
    ·exact⟨[.list []],by simp[bH,hu],lX.one rfl .nil'⟩
    ·obtain⟨ll,hll,hR⟩:=rQ (fun i (q:List Value×List D)=>w.cells? 0 (a.add (i*P.cellsOf e)) (P.cellsOf e)=some q.1∧bH P n e q.2∧lX w q.1 q.2) len fun i hi=>by
      have h1:=hel i hi;rw[Ez (by omega),Bz]at h1;obtain⟨c,hc,h1⟩:=h1;obtain⟨ds,h2,h3⟩:=ih e m c _ he hk h1;exact⟨(c,ds),hc,h2,h3⟩
     have hes:(ll.map (·.2)).length=len:=by simpa using hll
     refine⟨[.list (ll.map (·.2))], ?_,lX.one rfl ?_⟩
     ·simp only[bH,hu];refine⟨_,rfl,by omega,fun c hc=> ?_⟩;obtain⟨q,hq,rfl⟩:=List.mem_map.1 hc;obtain⟨i,hi⟩:=List.mem_iff_getElem?.1 hq;exact(hR i q hi).2.1
     ·by_cases h0:len=0
      ·subst h0;have:ll= []:=List.eq_nil_of_length_eq_zero hll;subst this;exact .emp
      ·have cell: ∀(i:Nat) (q:List Value×List D),ll[i]?=some q→ ∀k,k<P.cellsOf e→w.cell? ((a.add (i*P.cellsOf e)).add k)=q.1[k]?∧q.1.length=P.cellsOf e:=fun i q hq k hk'=>
        let⟨_,h2,h3⟩:=World.cells?_some (hR i q hq).1
        ⟨h3 k hk',h2⟩
       have N0:a.spot=none:=by
        have hq:=Ez (show 0<ll.length by omega);obtain⟨h2,h3⟩:=cell 0 _ hq 0 su;rw[Ez (by omega)]at h2;have:=World.cell?_spot h2;simpa[Addr.add]using this
       obtain⟨b,off,sp⟩:=a;simp only at N0;subst N0
       have key: ∀(i:Nat) (q:List Value×List D),ll[i]?=some q→ ∀k,k<P.cellsOf e→ ∃c,q.1[k]?=some c∧w.cell? ⟨b,off+(i*P.cellsOf e+k),none⟩=some c:=fun i q hq k hk'=>by
        obtain⟨h2,h3⟩:=cell i q hq k hk';rw[dU,dU,Ez (by omega)]at h2;exact⟨_,Ez (by omega),by rw[←Nat.add_assoc];exact h2⟩
       have:=aj.list (w:=w) (pr:=eZ w) (tk:=aA) (b:=b) (off:=off) (cap:=cap) (size:=P.cellsOf e) (es:=ll.map (·.2)) (fun j=>(w.cell? ⟨b,off+j,none⟩).getD undef) (fun c hc=>by
         obtain⟨q,hq,rfl⟩:=List.mem_map.1 hc;obtain⟨i,hi⟩:=List.mem_iff_getElem?.1 hq;rw[←(hR i q hi).2.2.1];exact(cell i q hi 0 su).2) (by omega) (fun j hj=>by
         have hi:j/P.cellsOf e<ll.length:=by
          rw[List.length_map]at hj;exact Nat.div_lt_of_lt_mul (by rw[Nat.mul_comm];exact hj)
         have hk':=Nat.mod_lt j su;have hq:=Ez hi;obtain⟨c,h1,h2⟩:=key _ _ hq _ hk';have ej:j/P.cellsOf e*P.cellsOf e+j%P.cellsOf e=j:=Nat.div_add_mod' j _;rw[ej]at h2;refine⟨by rw[h2];rfl,World.block_lt_of_cell? w _ h2, ?_⟩;rw[h2];have hrl:=(hR _ _ hq).2.2;exact(hrl.2 _ c _ h1 (Ez (by rw[←hrl.1];exact(Gz.1 h1).1))).1) (fun i c hc j d hd=>by
         rw[Dz,Mz]at hc;obtain⟨q,hq,rfl⟩:=hc;have hrl:=(hR i q hq).2.2
         have hj:j<P.cellsOf e:=by
          have:=(Gz.1 hd).1;rw[←hrl.1,(cell i q hq 0 su).2]at this;exact this
         obtain⟨c,h1,h2⟩:=key i q hq j hj;simp only[h2,Option.getD_some]
         exact(hrl.2 j c d h1 hd).2)
       rw[hes]at this;exact this
   case struct fs=>
    obtain⟨k1,k2,k3⟩:=kid_struct hl ht hu;obtain⟨xs,m,rfl,rfl,hlen,hxs,hx⟩:=DataW.trod_struct hu h;rw[Tz]at hk
    have Xm: ∀i,i<fs.toList.length→fs.toList[i]?=some (fs.toList.getD i default):=fun i hi=>by
     have hi':i<fs.size:=by simpa using hi
     simp[List.getD,hi']
    have XB:=vm (fun f:Field=>P.cellsOf f.type) default fs.toList fs.toList.length (Nat.le_refl _);rw[List.take_length]at XB;rw[XB]at k2
    obtain⟨ds,h1,h2⟩:=qP (w:=w) (fun i ds=>bH P n (fs.toList.getD i default).type ds) (fun i=>P.cellsOf (fs.toList.getD i default).type) (fun i=>(fs.toList.getD i default).offset) cs fs.toList.length
     (fun i hi=>by rw[k3 i _ (Xm i hi),vm _ default _ i (by omega)]) (by omega) fun i hi=>by
      have hf:=Xm i hi;have hf':fs[i]?=some (fs.toList.getD i default):=by rw[←hf];simp
      have h3:=hx i _ hf';rw[Ez (by rw[hxs];simpa using hi)]at h3;have hm:=Lz hf;exact ih _ m _ _ (k1 _ hm) (hk _ hm) h3
    rw[List.take_of_length_le (by omega)]at h1;refine⟨ds, ?_,h1⟩;simp only[bH,hu];refine⟨by rw[←h1.1,hlen],fun f hf=> ?_⟩;obtain⟨i,hi,rfl⟩:=List.getElem_of_mem hf;have hi':i<fs.size:=by simpa using hi
    have:=h2 i hi;simpa[List.getD,hi']using this
   case array m e=>
    obtain⟨k1,k2⟩:=kid_array hl ht hu;obtain⟨xs,q,rfl,rfl,hlen,hxs,hx⟩:=DataW.trod_array hu h
    obtain⟨ds,h1,h2⟩:=qP (w:=w) (fun i ds=>bH P n e ds) (fun i=>P.cellsOf e) (fun i=>i*P.cellsOf e) cs m
     (fun i hi=>(nD _ i).symm) (by rw[nD];omega) fun i hi=>by
      have h3:=hx i hi;rw[Ez (by omega)]at h3;exact ih _ q _ _ k1 hk h3
    rw[nD,List.take_of_length_le (by omega)]at h1;refine⟨ds, ?_,h1⟩;simp only[bH,hu];exact⟨by rw[←h1.1,hlen],h2⟩
def j0(P:Program)(n:Nat)(t:TypeId)(d:D):Prop:=match P.underlying t with
 |some (.struct _)|some (.array _ _)=> ∃ds,d= .agg ds∧bH P n t ds
 |_=>bH P n t [d]
def n_(P:Program)(n:Nat):List TypeId→List D→Prop
 | [],[]=>True
 |t::ts,d::ds=>j0 P n t d∧n_ P n ts ds
 |_,_=>False
theorem Ke(hl:laidOutB P=true){n:Nat}{t:TypeId}{v:Value}{d:DataW H}{p:List MemPlace}{base:Nat}(ht:t<P.types.size)(hk:uM P n t=true)(hv:Value.okWide P w .any base t v)
  (h:DataW.Trod enc P w 0 (fun _=>true) held t v d p): ∃d',j0 P n t d'∧aj w (eZ w) aA v d':=by
 obtain⟨fuel,h⟩:=h;obtain⟨ds,h1,h2⟩:=Kf hl n t fuel _ _ ht hk h
 have plain:(∀cs,v≠ .agg cs)→j0 P n t (ds.getD 0 .undef)=bH P n t [ds.getD 0 .undef]→ ∃d',j0 P n t d'∧aj w (eZ w) aA v d':=fun hne e=>by
  have hc:v.cells.toList= [v]:=by
   cases v<;>first|rfl|exact absurd rfl (hne _)
  rw[hc]at h2;have hl1:=h2.1
  match ds,hl1 with
  | [d0],_=>exact⟨d0,by simp only[List.getD_cons_zero]at e;rw[e];exact h1,(h2.2 0 v d0 rfl rfl).2⟩
 have agg: ∀cs,v= .agg cs→j0 P n t (.agg ds)=(∃ds',D.agg ds= .agg ds'∧bH P n t ds')→ ∃d',j0 P n t d'∧aj w (eZ w) aA v d':=fun cs e e2=>by
  subst e;refine⟨.agg ds,by rw[e2];exact⟨ds,rfl,h1⟩, .agg (by simpa[Value.cells]using h2.1) (fun i c hc=> ?_) fun i c x hc hx=>(h2.2 i c x (by simpa[Value.cells]using hc) hx).2⟩
  have hi:i<ds.length:=by
   have:=(Array.getElem?_eq_some_iff.1 hc).1;have:=h2.1;simp[Value.cells]at this;omega
  exact(h2.2 i c _ (by simpa[Value.cells]using hc) (Ez hi)).1
 cases hu:P.underlying t with
 |none=>cases n<;>simp[uM,hu]at hk
 |some ty=>
  cases ty
  case struct fs=>
   simp only[Value.okWide,hu]at hv;obtain⟨cs,rfl,_⟩:=hv;exact agg cs rfl (by simp only[j0,hu])
  case array m e=>
   simp only[Value.okWide,hu]at hv;obtain⟨cs,rfl,_⟩:=hv;exact agg cs rfl (by simp only[j0,hu])
  all_goals
   refine plain (fun cs e=> ?_) (by simp only[j0,hu]);subst e;simp[Value.okWide,hu,Cell.okWide,Cell.ok]at hv
theorem xN(hl:laidOutB P=true){n:Nat}{base:Nat}: ∀{ts:List TypeId} {vs:List Value} {ds:List (DataW H)} {p:List MemPlace},(∀t∈ts,t<P.types.size∧uM P n t=true)→
  (∀(j:Nat) t v,ts[j]?=some t→vs[j]?=some v→Value.okWide P w .any base t v)→DataW.TrodAll enc P w 0 (fun _=>true) held ts vs ds p→ ∃Ds,n_ P n ts Ds∧aX w (eZ w) aA vs Ds
 | [],vs,ds,p,_,_,h=>by
  obtain⟨rfl,rfl,rfl⟩:=trodAll_nil h;exact⟨[],trivial,trivial⟩
 |t::ts,vs,ds,p,hk,hv,h=>by
  obtain⟨v,vs1,d,ds1,a,b,rfl,rfl,rfl,h1,h2⟩:=trodAll_cons h;obtain⟨d',e1,e2⟩:=Ke hl (hk t List.mem_cons_self).1 (hk t List.mem_cons_self).2 (hv 0 t v rfl rfl) h1;obtain⟨Ds,e3,e4⟩:=xN hl (fun t' ht'=>hk t' (Cz _ ht')) (fun j t' v' ht' hv'=>hv (j+1) t' v' ht' hv') h2;exact⟨d'::Ds,⟨e1,e3⟩,⟨e2,e4⟩⟩
theorem vC(hl:laidOutB P=true){W W':World}(hb:Below W.heap.size W W'){sp:Nat→Bool}: ∀{ts:List TypeId} {vs:List Value} {ds:List (DataW H)} {p:List MemPlace},(∀t∈ts,t<P.types.size∧P.readableRec t=true)→
  (∀x∈p,x.block<W.heap.size∧sp x.block=true)→DataW.TrodAll enc P W 0 (fun _=>true) true ts vs ds p→DataW.TrodAll enc P W' 0 sp true ts vs ds p
 | [],vs,ds,p,_,_,h=>by
  obtain⟨rfl,rfl,rfl⟩:=trodAll_nil h;exact trodAll_mk0
 |t::ts,vs,ds,p,hk,hp,h=>by
  obtain⟨v,vs1,d,ds1,a,b,rfl,rfl,rfl,h1,h2⟩:=trodAll_cons h;refine trodAll_cons_mk (WideElems.Trod_stays hl (hk t List.mem_cons_self).2 (hk t List.mem_cons_self).1 h1 (fun x hx=>hb.same (hp x (List.mem_append_left _ hx)).1) fun x hx=>(hp x (List.mem_append_left _ hx)).2) ?_;exact vC hl hb (fun t' ht'=>hk t' (Cz _ ht')) (fun x hx=>hp x (List.mem_append_right _ hx)) h2
theorem r_{W:World}{sp:Nat→Bool}: ∀{ts:List TypeId} {vs:List Value} {ds:List (DataW H)} {p:List MemPlace},DataW.TrodAll enc P W 0 sp held ts vs ds p→ds.length=ts.length
 | [],vs,ds,p,h=>by
  obtain⟨rfl,rfl,rfl⟩:=trodAll_nil h;rfl
 |t::ts,vs,ds,p,h=>by
  obtain⟨v,vs1,d,ds1,a,b,rfl,rfl,rfl,h1,h2⟩:=trodAll_cons h;simp[r_ h2]
theorem xR.body{f:Nat}{ds:List D}{d:D}(h:xR P f ds d)(hb:dD P f)(w0:World)(pr0:aV)(c0:Array Value)(hr:aX w0 pr0 aA c0.toList ds):dD P f∧ ∀(w:World) (pr:aV) (cargs:Array Value),(∀b o,pr b o→b<w.heap.size)→Co w pr→aX w pr aA cargs.toList ds→
  Calls P f cargs w fun e w'=> ∃v pr',e= .returned v∧dP (fun _=>False) w w'∧(∀b o,pr b o→pr' b o)∧(∀b o,pr' b o→pr b o∨(w.heap.size≤b∧b<w'.heap.size))∧aj w' pr' aA v d:=by
 rcases h with h|h
 ·obtain⟨v,h1,_⟩:=h w0 pr0 c0 hr;rw[bG hb]at h1;cases h1
 ·exact h
theorem yK(hl:laidOutB P=true){f:FuncId}{fn:Func}{s:ChangeSpec}{n tb:Nat}(IL:s.vars= [])(XA: ∀ds:List (DataW H),ds.length=fn.params.size→s.fn H ds={results:= [.lit (.bool true)],args:=ds})
  (LI:fn.resultTypes= #[tb]) (hb:P.underlying tb=some .bool) (hts: ∀t∈fn.params.toList,t<P.types.size∧uM P n t=true∧P.readableRec t=true)
  (hc: ∀Ds,n_ P n fn.params.toList Ds→xR P f Ds (bv true))
  (W:World) (base:Nat) (args:Array Value) (ds gs:List (DataW H)) (before:List MemPlace)
  (Tm: ∀(j:Nat) t v,fn.params[j]?=some t→args[j]?=some v→Value.okWide P W .any base t v) (hG:Co W (eZ W)) (Wx:dD P f)
  (hW:DataW.Whole enc P fn.params.toList s.vars false W args.toList ds gs before):
  Calls P f args W fun e W'=> ∃v,e= .returned v∧s.post enc P fn false true false false W args v W':=by
 have hlt: ∀p∈before,p.block<W.heap.size:=fun p hp=>hW.lt p hp;have hW':=hW;obtain⟨p,q,hA,hV,rfl,hfz,hnd⟩:=hW;rw[IL]at hV;obtain⟨rfl,rfl⟩:=trodVars_none hV;rw[List.append_nil]at hlt hW' hfz hnd;obtain⟨Ds,h1,h2⟩:=xN (held:=true) hl (n:=n) (base:=base) (fun t ht=>⟨(hts t ht).1,(hts t ht).2.1⟩) (fun j t v ht hv=>Tm j t v (by simpa using ht) (by simpa using hv)) hA;obtain⟨_,mC⟩:=(hc Ds h1).body Wx W _ args h2;refine(mC W (eZ W) args (fun b o h=>h) hG h2).mono ?_;rintro e W' ⟨v,pr',rfl,hch,_,_,hr⟩;obtain⟨rfl,_⟩:=aT.1 hr;refine⟨_,rfl, ?_⟩;have SX:Below W.heap.size W W':=⟨hch.os,hch.tape,hch.output,hch.size,fun k hk=>hch.block k hk (fun h=>h)⟩;have hlen:ds.length=fn.params.size:=by have:=r_ hA;simpa using this
 have hsp:=XA ds hlen
 have hA': ∀sp:Nat→Bool,(∀x∈p,sp x.block=true)→DataW.TrodAll enc P W' 0 sp true fn.params.toList args.toList ds p:=fun sp hs=>
  vC hl SX (fun t ht=>⟨(hts t ht).1,(hts t ht).2.2⟩) (fun x hx=>⟨hlt x hx,hs x hx⟩) hA
 have hR: ∀(b:Nat) (sp:Nat→Bool) (hd:Bool),DataW.TrodAll enc P W' b sp hd fn.resultTypes.toList ((Value.bool true).resultList fn.resultTypes.size) [.lit (.bool true)] []:=fun b sp hd=>by
  rw[LI];exact trodAll_mk1 (shut_bool hb true)
 have hap:ds++([]:List (DataW H))=ds:=List.append_nil ds;refine⟨ds,[],p,[],p,[],hW', ?_, ?_, ?_,SX.frame _,fun _=> ?_⟩
 ·rw[hap,hsp];exact hR _ _ _
 ·rw[hap,hsp];exact hA' _ fun x hx=>by simpa using hlt x hx
 ·rw[IL,hap,hsp];exact rfl
 ·refine⟨ok_one LI rfl (okWide_bool_mk hb true),[.lit (.bool true)]++ds,[],([]++p)++ [],⟨[]++p,[],trodAll_append (hA' _ fun _ _=>rfl) (hR _ _ _),by rw[IL];exact rfl,rfl, ?_, ?_⟩, ?_⟩
  ·intro b off hp;have hm:MemPlace.cell b off∈p:=by simpa using hp
   rw[SX.frozen (p:=⟨b,off,none⟩) (hlt _ hm)];exact hfz b off hm
  ·intro ha;cases ha
  ·intro x hx _;simpa using hx
end
end
section
open Go.ChangeShapes Go.WideShapes Go.ChangeAt Go.RowKit
def Bv{H:Type}:Nat→DataW H→Option (List Value)
 |0,_=>none
 |_+1, .lit (.int k z)=>some [.int k z]
 |n+1, .agg xs=>(xs.mapM (Bv n)).map List.flatten
 |_+1,_=>none
def yG(P:Program):Nat→TypeId→Bool
 |0,_=>false
 |n+1,t=>match P.underlying t with
  |some (.int _)=>true
  |some (.array _ e)=>yG P n e
  |_=>false
theorem chunks{α:Type}(c:Nat): ∀(ls:List (List α)) (cs:List α),cs.length=ls.length*c→(∀i l,ls[i]?=some l→(cs.drop (i*c)).take c=l)→cs=ls.flatten
 | [],cs,hl,_=>by simpa using hl
 |l::r,cs,hl,h=>by
  have h0:=h 0 l rfl;simp only[Nat.zero_mul,List.drop_zero]at h0
  have hr:=chunks c r (cs.drop c) (by simp only[List.length_cons,Nat.add_mul,Nat.one_mul]at hl;simp[hl]) fun i l hi=>by
   have:=h (i+1) l (by simpa using hi)
   rwa[Nat.add_mul,Nat.one_mul,Nat.add_comm,←List.drop_drop]at this
  rw[List.flatten_cons,←hr,←h0,List.take_append_drop]
section
variable {H : Type} {enc : TypeId × Value → H} {P : Program} {w : World} {base : Nat} {sp : Nat → Bool} {held : Bool}
theorem G2(hl:laidOutB P=true): ∀(n:Nat) (t:TypeId) (fuel:Nat) (cs:List Value) (d:DataW H) (p:List MemPlace) (vs:List Value),t<P.types.size→yG P n t=true→DataW.trod enc P w base sp held fuel t cs=some (d,p)→Bv n d=some vs→cs=vs:=by
 intro n
 induction n with
 |zero=>intro t fuel cs d p vs _ hk;cases hk
 |succ n ih=>
  intro t fuel cs d p vs ht hk h hv;simp only[yG]at hk;split at hk
  ·rename_i k hu;obtain⟨z,rfl,e,_⟩:=DataW.trod_int hu h;cases e;simp only[Bv,Jz]at hv;exact hv
  ·rename_i m e hu;obtain⟨k1,k2⟩:=kid_array hl ht hu;obtain⟨xs,q,rfl,e,hlen,hxs,hx⟩:=DataW.trod_array hu h;cases e;simp only[Bv]at hv;obtain⟨ls,h1,rfl⟩:=Mz.1 hv;obtain⟨l1,l2⟩:=gV h1;simp only[List.length_map]at l1;refine chunks (P.cellsOf e) ls cs (by rw[hlen,k2,l1,hxs]) fun i l hi=> ?_;have hil:=(Gz.1 hi).1;have h3:=hx i (by omega);have hxi:=Ez (show i<xs.length by omega);rw[hxi]at h3;obtain⟨a,ha,hla⟩:=l2 i l hi;rw[Dz,hxi]at ha;cases ha;exact ih e q _ _ _ _ k1 hk h3 hla
  ·cases hk
theorem Bt: ∀{l:List (String×DataW Unit)} {ps:List MemPlace},DataW.LaidVars P w l ps→ ∀{n:String} {d:DataW Unit},(n,d)∈l→
  ∃g t cs fuel p,P.globalNamed n=some g∧(P.globals[g]?).map (·.type)=some t∧w.var? P n=some cs∧DataW.trod (fun _=>()) P w 0 (fun _=>true) false fuel t cs.toList=some (d,p)
 | [],ps,h,n,d,hm=>by cases hm
 |(n',d')::r,ps,h,n,d,hm=>by
  obtain⟨g,t,cs,fuel,p,q,h1,h2,h3,h4,h5,_⟩:=h;rcases List.mem_cons.1 hm with e|hm
  ·cases e;exact⟨g,t,cs,fuel,p,h1,h2,h3,h4⟩
  ·exact Bt h5 hm
theorem A_(hl:laidOutB P=true){laid:List (String×DataW Unit)}(h:laidMet P laid w)
  (hc: ∀g xs,EP g=some xs→ ∃n d vs t,(n,d)∈laid∧P.globalNamed n=some g∧(P.globals[g]?).map (·.type)=some t∧t<P.types.size∧yG P 3 t=true∧Bv 3 d=some vs∧xs=vs.map D.v∧vs.all qR=true):Co w (eZ w):=by
 obtain⟨ps,hv,_,_⟩:=h;intro g xs hg;obtain⟨n,d,vs,t,hm,h1,h2,h3,h4,h5,rfl,h6⟩:=hc g xs hg;obtain⟨g',t',cs,fuel,p,k1,k2,k3,k4⟩:=Bt hv hm;rw[h1]at k1;cases k1;rw[h2]at k2;cases k2;have e:=G2 hl 3 t fuel _ _ _ _ h3 h4 k4 h5
 have cell: ∀i v,vs[i]?=some v→w.cell? ⟨g,0+i,none⟩=some v:=fun i v hi=>by
  rw[Nat.zero_add,World.var?_cell h1 k3 i,←Array.getElem?_toList,e];exact hi
 refine .lptr (fun j=>vs.getD j undef) (fun j hj=> ?_) fun j d hd=> ?_
 ·have hj':j<vs.length:=by simpa using hj
  have hv':=Ez hj';have:=cell j _ hv';simp only[List.getD,hv',Option.getD_some];exact⟨this,World.block_lt_of_cell? w _ this,eU (Tz.1 h6 _ (List.getElem_mem hj'))⟩
 ·rw[Dz,Mz]at hd;obtain⟨v,hv',rfl⟩:=hd;simp only[List.getD,hv',Option.getD_some];exact .v (Tz.1 h6 v (Lz hv'))
end
end
section
open Go.ChangeShapes Go.WideShapes Go.ChangeAt Go.RowKit
theorem laidOut:laidOutB Tryz.prog=true:=by kernel_rfl
theorem aet:ownKnob Tryz.prog.godebug=none:=by kernel_rfl
theorem qN:Tryz.prog.follows .mixedOrders=true:=by kernel_rfl
def Og:List (String×DataW Unit):=Rows.fieldSmallRow.laid
theorem Is{W:World}(h:laidMet Tryz.prog Og W):Co W (eZ W):=by
 refine A_ laidOut h fun g xs hg=> ?_;unfold EP at hg;split at hg<;>cases hg
 ·exact⟨_,Rows.laid_finesse_match_gets,[.int .i64 0, .int .i64 1, .int .i64 2],103,show _∈Rows.fieldSmallRow.laid from .head _,by kernel_rfl,by kernel_rfl,of_decide_eq_true (by kernel_rfl),by kernel_rfl,rfl,rfl,rfl⟩
 ·exact⟨_,Rows.laid_finesse_score_value,[.int .i64 20, .int .i64 20, .int .i64 30, .int .i64 30, .int .i64 30],378,show _∈Rows.fieldSmallRow.laid from .tail _ (.head _),by kernel_rfl,by kernel_rfl,of_decide_eq_true (by kernel_rfl),by kernel_rfl,rfl,rfl,rfl⟩
 ·exact⟨_,Rows.laid_finesse_score_factor,[.int .i64 1, .int .i64 2, .int .i64 4],103,show _∈Rows.fieldSmallRow.laid from .tail _ (.tail _ (.head _)),by kernel_rfl,by kernel_rfl,of_decide_eq_true (by kernel_rfl),by kernel_rfl,rfl,rfl,rfl⟩
 ·exact⟨_,Rows.laid_finesse_score_more,[.int .i64 0, .int .i64 0, .int .i64 100, .int .i64 200, .int .i64 200, .int .i64 400],379,show _∈Rows.fieldSmallRow.laid from .tail _ (.tail _ (.tail _ (.tail _ (.head _)))),by kernel_rfl,by kernel_rfl,of_decide_eq_true (by kernel_rfl),by kernel_rfl,rfl,rfl,rfl⟩
 ·exact⟨_,Rows.laid_finesse_score_insult,[.int .i64 0, .int .i64 50, .int .i64 100],103,show _∈Rows.fieldSmallRow.laid from .tail _ (.tail _ (.tail _ (.head _))),by kernel_rfl,by kernel_rfl,of_decide_eq_true (by kernel_rfl),by kernel_rfl,rfl,rfl,rfl⟩
noncomputable def xl(os:Os):World:=
 let w0:=World.holding Tryz.prog os ⟨#[],#[],[]⟩
 let put:=fun(h:Array Obj) (g:Nat) (l:List Int)=>h.modify g fun
  | .cells _ t frozen=> .cells (l.map fun z=>Value.int .i64 z).toArray t frozen
  |o=>o
 {w0 with heap:=put (put (put (put (put w0.heap 2 [0,1,2]) 3 [20,20,30,30,30]) 4 [1,2,4]) 5 [0,0,100,200,200,400]) 6 [0,50,100]}
theorem v8(os:Os)(args:Array Value):laidMet Tryz.prog Og ((xl os).forCall (fun _ _=>0) ⟨#[],args,[]⟩).memory:=
 laidMet_of_run' 8 (by kernel_rfl) (by kernel_rfl)
end
section
abbrev fw:Int:=18446744073709551616
def qe:List D→Option D
 | [.v (.int .u64 x), .v (.int .u64 y), .v (.int .u64 c)]=>if 0≤x∧0≤y∧0≤c∧c≤1 then some (.tup [.v (.int .u64 ((x+y+c)%fw)), .v (.int .u64 ((x+y+c)/fw))])else none
 |_=>none
def qZ:List D→Option D
 | [.v (.int .u64 x), .v (.int .u64 y), .v (.int .u64 c)]=>if(0≤x∧0≤y∧y<fw)∧0≤c∧c≤1 then some (.tup [.v (.int .u64 ((x+fw-y-c)%fw)), .v (.int .u64 (if x<y+c then 1 else 0))])else none
 |_=>none
def kB:FP:=fun f ds=>if f=152 then qe ds else if f=153 then qZ ds else none
theorem χ{w:World}{pr:aV}{tk:ai}{cargs:Array Value}{x y c:Value}(h:aX w pr tk cargs.toList [.v x, .v y, .v c]):cargs= #[x,y,c]:=by
 obtain⟨l⟩:=cargs
 match l,h with
 | [a,b,d],⟨h1,h2,h3,_⟩=>
  obtain⟨rfl,_⟩:=aT.1 h1;obtain⟨rfl,_⟩:=aT.1 h2;obtain⟨rfl,_⟩:=aT.1 h3;rfl
theorem BV{w:World}{pr:aV}{tk:ai}(k q:IntKind)(a b:Int):aj w pr tk (.tuple #[.int k a, .int q b]) (.tup [.v (.int k a), .v (.int q b)]):=
 .tup rfl fun i c x hc hx=>by
  match i with
  |0=>simp at hc hx;subst hc hx;exact .v rfl
  |1=>simp at hc hx;subst hc hx;exact .v rfl
  |i+2=>simp at hx
theorem lh:Sound Tryz.prog (br kB) where
 p f ds d _ h:=by
  replace h:(if f=152 then qe ds else if f=153 then qZ ds else none)=some d:=h
  split at h
  ·rename_i hf;subst hf;unfold qe at h;split at h
   ·rename_i x y c;split at h<;>cases h;rename_i hc;refine xR.toR (.inl fun w pr cargs hr=> ?_) rfl;rw[χ hr];refine⟨_, ?_,BV _ _ _ _⟩;rw[run_callFunc_extern (fn:=Tryz.f152) Tryz.func152 (by kernel_rfl) (by kernel_rfl) (by kernel_rfl) (e:=add64Entry) (by kernel_rfl),run_add64 x y c hc.1 hc.2.1 hc.2.2.1 hc.2.2.2];rfl
   ·cases h
  split at h
  ·rename_i hf;subst hf;unfold qZ at h;split at h
   ·rename_i x y c;split at h<;>cases h;rename_i hc;obtain⟨⟨h1,h2,h3⟩,h4,h5⟩:=hc;refine xR.toR (.inl fun w pr cargs hr=> ?_) rfl;rw[χ hr];refine⟨_, ?_,BV _ _ _ _⟩;obtain⟨X,rfl⟩:=Int.eq_ofNat_of_zero_le h1;obtain⟨Y,rfl⟩:=Int.eq_ofNat_of_zero_le h2;obtain⟨b,rfl⟩:=Int.eq_ofNat_of_zero_le h4;rw[run_callFunc_extern (fn:=Tryz.f153) Tryz.func153 (by kernel_rfl) (by kernel_rfl) (by kernel_rfl) (e:=sub64Entry) (by kernel_rfl),run_sub64 X Y b (by omega)];simp only[Result.andThen];have e1:(((X+18446744073709551616-Y-b)%18446744073709551616:Nat):Int)=((X:Int)+fw-Y-b)%fw:=by unfold fw at h3⊢;omega
    have e2:((if X<Y+b then 1 else 0:Nat):Int)=if(X:Int)<Y+b then 1 else 0:=by
     split<;>split<;>first|rfl|omega
    rw[e1,e2]
   ·cases h
  ·cases h
 e k f ds r hf _ h:=by
  have h:(if 1000000+(1000000*k+f)=152 then qe ds else if 1000000+(1000000*k+f)=153 then qZ ds else none)=some r:=h;rw[if_neg (by omega),if_neg (by omega)]at h;cases h
 q e f ds r hf h:=by
  obtain⟨d,hd,rfl⟩:=Mz.1 (show(kB (1000001000000+(1000000*e+f)) ds).map _=some r from h);have hd:(if 1000001000000+(1000000*e+f)=152 then qe ds else if 1000001000000+(1000000*e+f)=153 then qZ ds else none)=some d:=hd;rw[if_neg (by omega),if_neg (by omega)]at hd;cases hd
end
end Go.Proofs.YtkcfpgaepmllhaaGreatDoor
namespace Go.Proofs
open Go.Shelf
def Tryz.rU:Go.Shelf.Ren:=⟨fun|6=>57|15=>81|14=>94|28=>132|29=>133|20=>140|21=>141|22=>142|23=>143|24=>144|25=>145|26=>146|27=>147|46=>186|47=>174|48=>175|49=>187|50=>188|57=>238|n=>n,fun|22=>62|24=>68|25=>135|3=>3|39=>170|0=>0|53=>228|55=>198|4=>4|46=>222|45=>221|50=>182|5=>5|9=>9|66=>265|70=>269|76=>332|77=>307|n=>n,fun|n=>n⟩
theorem Tryz.MU:Go.Proofs.SlLaysF0.n6 Tryz.prog Tryz.rU:={
 mixed:=by kernel_rfl
 f6:=⟨Tryz.f57.name,by decide,Tryz.func57.trans (congrArg some (by kernel_rfl))⟩
 f14:=⟨Tryz.f94.name,by decide,Tryz.func94.trans (congrArg some (by kernel_rfl))⟩
 f15:=Tryz.func81.trans (congrArg some (by kernel_rfl))
 f20:=⟨Tryz.f140.name,by decide,Tryz.func140.trans (congrArg some (by kernel_rfl))⟩
 f21:=⟨Tryz.f141.name,by decide,Tryz.func141.trans (congrArg some (by kernel_rfl))⟩
 f22:=⟨Tryz.f142.name,by decide,Tryz.func142.trans (congrArg some (by kernel_rfl))⟩
 f23:=⟨Tryz.f143.name,by decide,Tryz.func143.trans (congrArg some (by kernel_rfl))⟩
 f24:=⟨Tryz.f144.name,by decide,Tryz.func144.trans (congrArg some (by kernel_rfl))⟩
 f25:=⟨Tryz.f145.name,by decide,Tryz.func145.trans (congrArg some (by kernel_rfl))⟩
 f26:=⟨Tryz.f146.name,by decide,Tryz.func146.trans (congrArg some (by kernel_rfl))⟩
 f27:=⟨Tryz.f147.name,by decide,Tryz.func147.trans (congrArg some (by kernel_rfl))⟩
 f28:=Tryz.func132.trans (congrArg some (by kernel_rfl))
 f29:=Tryz.func133.trans (congrArg some (by kernel_rfl))
 f46:=⟨Tryz.f186.name,by decide,Tryz.func186.trans (congrArg some (by kernel_rfl))⟩
 f47:=Tryz.func174.trans (congrArg some (by kernel_rfl))
 f48:=Tryz.func175.trans (congrArg some (by kernel_rfl))
 f49:=⟨Tryz.f187.name,by decide,Tryz.func187.trans (congrArg some (by kernel_rfl))⟩
 f50:=⟨Tryz.f188.name,by decide,Tryz.func188.trans (congrArg some (by kernel_rfl))⟩
 f57:=⟨Tryz.f238.name,by decide,Tryz.func238.trans (congrArg some (by kernel_rfl))⟩
 t0:=Tryz.underlying0
 a0:=Tryz.isAgg0
 z0:=Tryz.sizeOf0
 v0:=Tryz.zeroValue0
 t3:=Tryz.underlying3
 a3:=Tryz.isAgg3
 z3:=Tryz.sizeOf3
 v3:=Tryz.zeroValue3
 t4:=Tryz.underlying4
 a4:=Tryz.isAgg4
 z4:=Tryz.sizeOf4
 v4:=Tryz.zeroValue4
 t5:=Tryz.underlying5
 a5:=Tryz.isAgg5
 z5:=Tryz.sizeOf5
 v5:=Tryz.zeroValue5
 t9:=Tryz.underlying9
 a9:=Tryz.isAgg9
 z9:=Tryz.sizeOf9
 v9:=Tryz.zeroValue9
 t22:=Tryz.underlying62
 a22:=Tryz.isAgg62
 z22:=Tryz.sizeOf62
 v22:=Tryz.zeroValue62
 t25:=Tryz.underlying135
 a25:=Tryz.isAgg135
 z25:=Tryz.sizeOf135
 v25:=Tryz.zeroValue135
 t39:=Tryz.underlying170
 a39:=Tryz.isAgg170
 z39:=Tryz.sizeOf170
 v39:=Tryz.zeroValue170
 t45:=Tryz.underlying221
 a45:=Tryz.isAgg221
 z45:=Tryz.sizeOf221
 v45:=Tryz.zeroValue221
 t46:=Tryz.underlying222
 a46:=Tryz.isAgg222
 z46:=Tryz.sizeOf222
 v46:=Tryz.zeroValue222
 t50:=Tryz.underlying182
 a50:=Tryz.isAgg182
 z50:=Tryz.sizeOf182
 v50:=Tryz.zeroValue182
 t53:=Tryz.underlying228
 a53:=Tryz.isAgg228
 z53:=Tryz.sizeOf228
 v53:=Tryz.zeroValue228
 t55:=Tryz.underlying198
 a55:=Tryz.isAgg198
 z55:=Tryz.sizeOf198
 v55:=Tryz.zeroValue198
 t66:=Tryz.underlying265
 a66:=Tryz.isAgg265
 z66:=Tryz.sizeOf265
 v66:=Tryz.zeroValue265
 t70:=Tryz.underlying269
 a70:=Tryz.isAgg269
 z70:=Tryz.sizeOf269
 v70:=Tryz.zeroValue269
 t76:=Tryz.underlying332
 a76:=Tryz.isAgg332
 z76:=Tryz.sizeOf332
 v76:=Tryz.zeroValue332
 t77:=Tryz.underlying307
 a77:=Tryz.isAgg307
 z77:=Tryz.sizeOf307
 v77:=Tryz.zeroValue307}
end Go.Proofs
namespace Go.Proofs.YtkcfpgaepmllhaaGreatDoor
open Go.RowKit
set_option maxRecDepth 100000
set_option linter.all false
section
open Go.RowKit Go.Lib Go.Sort
theorem HD{w w':World}(h:dP (fun _=>False) w w'): ∃q os',w'=grow (w.drewN q) os':=by
 refine⟨w'.drawn-w.drawn,w'.heap.extract w.heap.size w'.heap.size, ?_⟩
 have hh:w'.heap=w.heap++w'.heap.extract w.heap.size w'.heap.size:=by
  apply Array.ext_getElem?;intro i;by_cases hi:i<w.heap.size
  ·rw[Array.getElem?_append_left hi];exact h.block i hi id
  ·rw[Array.getElem?_append_right (by omega)];have hs:=h.size;by_cases hj:i<w'.heap.size
   ·rw[Rz hj,Rz (by simp;omega)];simp only[Array.getElem_extract];congr 2;omega
   ·rw[Array.getElem?_eq_none (by omega),Array.getElem?_eq_none (by simp;omega)]
 have hd:=h.drawn;have h1:=h.os;have h2:=h.tape;have h3:=h.output;obtain⟨heap,tape,drawn,os,output⟩:=w;obtain⟨aft,afV,ab',os',abx⟩:=w';simp only[grow,World.drewN]at*;subst h1 h2 h3;rw[←hh];congr 1;omega
end
section
open Go.RowKit Go.Lib Go.Sort Go.Shelf
def valOf:D→Value
 | .v x=>x
 |_=>undef
def lJ:D→Bool
 | .v x=>qR x
 |_=>false
theorem DA{w:World}{pr:aV}{tk:ai}{u:Value}{d:D}(h:aj w pr tk u d)(hd:lJ d=true):u=valOf d:=by
 cases d<;>simp only[lJ]at hd<;>try (cases hd;done)
 exact(aT.1 h).1
theorem uO{w:World}{pr:aV}{tk:ai}{d:D}(hd:lJ d=true):aj w pr tk (valOf d) d:=by
 cases d<;>simp only[lJ]at hd<;>try (cases hd;done)
 exact .v hd
structure Ae(P:Program)(g k:Nat)(dY:List D→Bool)(cf:List D→List D→Int):Prop where
 len: ∀x,dY x=true→x.length=k
 pl: ∀x,dY x=true→ ∀d∈x,lJ d=true
 ok: ∀x y,dY x=true→dY y=true→xR P g [.agg x, .agg y] (.v (.int .i64 (cf x y)))
 body:dD P g
 lt:g<1000000
 irrefl: ∀x,dY x=true→ ¬cf x x<0
 trans: ∀x y z,dY x=true→dY y=true→dY z=true→cf x y<0→cf y z<0→cf x z<0
 ntrans: ∀x y z,dY x=true→dY y=true→dY z=true→ ¬cf x y<0→ ¬cf y z<0→ ¬cf x z<0
 anti: ∀x y,dY x=true→dY y=true→ ¬cf x y<0→ ¬cf y x<0→x=y
theorem xR.calls{P:Program}{f:Nat}{ds:List D}{d:D}(h:xR P f ds d)(hb:dD P f){w:World}{pr:aV}{cargs:Array Value}(hpr: ∀b o,pr b o→b<w.heap.size)(hG:Co w pr)(hr:aX w pr aA cargs.toList ds):
  Calls P f cargs w fun e w'=> ∃v pr',e= .returned v∧dP (fun _=>False) w w'∧(∀b o,pr b o→pr' b o)∧(∀b o,pr' b o→pr b o∨(w.heap.size≤b∧b<w'.heap.size))∧aj w' pr' aA v d:=by
 rcases h with h|⟨_,h⟩
 ·obtain⟨v,h1,_⟩:=h w pr cargs hr;rw[bG hb]at h1;cases h1
 ·grind
def v7{α:Type}(lt:α→α→Bool)(x:α):List α→List α
 | []=> [x]
 |y::r=>bif lt x y then x::y::r else y::v7 lt x r
def bV{α:Type}(lt:α→α→Bool):List α→List α
 | []=> []
 |x::r=>v7 lt x (bV lt r)
theorem qG{α:Type}(lt:α→α→Bool)(x:α): ∀(l:List α),(v7 lt x l).Perm (x::l)
 | []=> .refl _
 |y::r=>by
  simp only[v7];cases lt x y
  ·exact((qG lt x r).cons y).trans (.swap x y r)
  ·exact .refl _
theorem bW{α:Type}(lt:α→α→Bool): ∀(l:List α),(bV lt l).Perm l
 | []=> .refl _
 |x::r=>(qG lt x _).trans ((bW lt r).cons x)
theorem rM{α:Type}{lt:α→α→Bool}(h:SWO lt)(x:α): ∀{l:List α},l.Pairwise (fun a b=>lt b a=false)→(v7 lt x l).Pairwise (fun a b=>lt b a=false)
 | [],_=>by simp[v7]
 |y::r,hp=>by
  obtain⟨h1,h2⟩:=List.pairwise_cons.1 hp;simp only[v7];cases hl:lt x y
  ·refine List.pairwise_cons.2 ⟨fun z hz=> ?_,rM h x h2⟩;rcases List.mem_cons.1 ((qG lt x r).mem_iff.1 hz)with rfl|hz
   ·exact hl
   ·grind
  ·refine List.pairwise_cons.2 ⟨fun z hz=> ?_,hp⟩;rcases List.mem_cons.1 hz with rfl|hz
   ·cases hq:lt z x
    ·rfl
    ·have:=h.trans _ _ _ hl hq;rw[h.irrefl]at this;cases this
   ·cases hq:lt z x
    ·rfl
    ·have:=h.trans _ _ _ hq hl;rw[h1 z hz]at this;cases this
theorem lM{α:Type}{lt:α→α→Bool}(h:SWO lt): ∀(l:List α),(bV lt l).Pairwise (fun a b=>lt b a=false)
 | []=> .nil
 |x::r=>rM h x (lM h r)
theorem Bk{α β:Type}{lt:α→α→Bool}{lt':β→β→Bool}{f:α→β}(h: ∀x y,lt' (f x) (f y)=lt x y)(x:α): ∀(l:List α),(v7 lt x l).map f=v7 lt' (f x) (l.map f)
 | []=>rfl
 |y::r=>by
  simp only[v7,List.map_cons,h];cases lt x y
  ·simp[Bk h x r]
  ·simp
theorem nC{α β:Type}{lt:α→α→Bool}{lt':β→β→Bool}{f:α→β}(h: ∀x y,lt' (f x) (f y)=lt x y): ∀(l:List α),(bV lt l).map f=bV lt' (l.map f)
 | []=>rfl
 |x::r=>by simp only[bV,List.map_cons,Bk h,nC h r]
theorem GI{α:Type} [Inhabited α]{lt:α→α→Bool}(h:SWO lt)(ha: ∀x y,lt x y=false→lt y x=false→x=y)(l:List α):(pdq lt l.toArray 0 l.toArray.size (Lib.bitLen l.toArray.size) true true).toList=bV lt l:=by
 obtain⟨h1,h2⟩:=pdq_sorts lt h l.toArray 0 l.toArray.size (Lib.bitLen l.toArray.size) true true (Nat.zero_le _) (Nat.le_refl _) (Or.inl rfl);rw[sorted_unique_holds h ha _ _ h1 h2];have hp:=bW lt l;have hl:=hp.length_eq;refine(sorted_unique_holds h ha l.toArray (bV lt l).toArray ⟨by simpa using hl,fun i hi=> ?_,by simpa[hl,List.take_of_length_le (Nat.le_of_eq hl)]using hp⟩ ?_).symm
 ·have hi:l.length≤i:=by rcases hi with h|h;omega;simpa using h
  rw[getElem!_neg _ _ (by simp;omega),getElem!_neg _ _ (by simp;omega)]
 ·intro i j _ hij hj;have hj:j<l.length:=by simpa using hj
  have hs:=List.pairwise_iff_getElem.1 (lM h l) i j (by omega) (by omega) hij;rw[getElem!_pos _ _ (by simp;omega),getElem!_pos _ _ (by simp;omega)];simpa using hs
section
variable {P : Program} {g k : Nat} {dY : List D → Bool} {cf : List D → List D → Int}
def Bx(cf:List D→List D→Int)(x y:List D):Bool:=decide (cf x y<0)
abbrev Good(dY:List D→Bool):={x:List D//dY x=true}
def jd(x:Good dY):List Value:=x.1.map valOf
theorem Ae.swo(K:Ae P g k dY cf):SWO (ltOf fun x y:Good dY=>cf x.1 y.1):=
 ⟨fun x=>decide_eq_false (K.irrefl x.1 x.2),fun x y z h1 h2=>decide_eq_true (K.trans x.1 y.1 z.1 x.2 y.2 z.2 (of_decide_eq_true h1) (of_decide_eq_true h2)),
  fun x y z h1 h2=>decide_eq_false (K.ntrans x.1 y.1 z.1 x.2 y.2 z.2 (of_decide_eq_false h1) (of_decide_eq_false h2))⟩
theorem Ae.VX(K:Ae P g k dY cf)(x y:Good dY)(h1:ltOf (fun x y:Good dY=>cf x.1 y.1) x y=false)(h2:ltOf (fun x y:Good dY=>cf x.1 y.1) y x=false):x=y:=
 Subtype.ext (K.anti x.1 y.1 x.2 y.2 (of_decide_eq_false h1) (of_decide_eq_false h2))
theorem Ae.sort (K : Ae P g k dY cf) {ρ : Shelf.Ren} (L : SlLaysF0.n6 P ρ) (aE : ∀ w, (isAgg (ρ.t 24)).run P w = .ok true w) (zE : ∀ w, (Go.sizeOf (ρ.t 24)).run P w = .ok k w) (hb : dD P (ρ.f 6))
     {x0 : List D} (hx0 : dY x0 = true) {es : List (List D)} (hes : ∀ x ∈ es, dY x = true) (hlen : es.length < 4611686018427387904) (Tc : es = [] → xR P (ρ.f 6) [.list [], .clo g []] (.tup [])) :
    VEp P 0 (ρ.f 6) [.list es, .clo g []] es (bV (Bx cf) es) (.tup []) := by
  refine ⟨hb, (bW _ es).length_eq, fun w pr cargs hpr hG hcs ac8 => ?_⟩
  have hc1 : cargs[1]? = some (.func (.func g) #[] #[]) := by
    have h1 : (1 : Nat) < cargs.size := by rw [hcs]; simp
    have h := ac8 1 _ _ (by decide) (Rz h1) rfl
    rw [Rz h1]
    generalize cargs[1] = v at h
    have hlt := K.lt
    cases h with
    | clo hf hs hr => have := Array.eq_empty_of_size_eq_zero hs; subst this; rfl
    | bclo hs hr => omega
  have two : ∀ v, cargs[0]? = some v → cargs = #[v, .func (.func g) #[] #[]] := fun v hv => by
    grind
  refine ⟨fun he hk => ?_, fun b cap t C hnb rK hle kM hCs gi hk => ?_⟩
  · subst he
    rw [two _ hk]
    exact (Tc rfl).calls hb hpr hG ⟨.nil', .clo K.lt rfl fun i c x h => by simp at h, trivial⟩
  rw [two _ hk]
  letI : Inhabited (Good dY) := ⟨⟨x0, hx0⟩⟩
  obtain ⟨l, rfl⟩ : ∃ l : List (Good dY), es = l.map (·.1) := ⟨es.pmap Subtype.mk hes, by simp [List.map_pmap]⟩
  have hbs : b < w.heap.size := (Array.getElem?_eq_some_iff.1 rK).1
  have hkt : l ≠ [] → k = P.cellsOf t := fun hne => by
    cases l with
    | nil => exact absurd rfl hne
    | cons x r => rw [← gi.1 x.1 (by simp)]; exact (K.len x.1 x.2).symm
  have Wf : ∀ x : Good dY, (jd x).length = k := fun x => by simp [jd, K.len x.1 x.2]
  have NC : ∀ (d : Array (Good dY)) (j : Nat), j < d.size * k → (flatK jd k d)[j]! = valOf ((d[j / k]!).1[j % k]!) := fun d j hj => by
    have hk0 : 0 < k := by rcases Nat.eq_zero_or_pos k with h | h; subst h; simp at hj; exact h
    have hm : j % k < k := Nat.mod_lt _ hk0
    have hl := K.len _ (d[j / k]!).2
    rw [get_flatK _ _ _ _ hj]
    have e1 : (jd (d[j / k]!))[j % k]! = (jd (d[j / k]!))[j % k]'(by rw [Wf]; exact hm) := getElem!_pos _ _ _
    have e2 : (d[j / k]!).1[j % k]! = (d[j / k]!).1[j % k]'(by rw [hl]; exact hm) := getElem!_pos _ _ _
    rw [e1, e2]
    simp [jd]
  have hH : HoldsK jd k w b 0 l.toArray := fun j hj => by
    simp only [size_flatK, List.size_toArray] at hj
    have hk0 : 0 < k := by rcases Nat.eq_zero_or_pos k with h | h; subst h; simp at hj; exact h
    have hm : j % k < k := Nat.mod_lt _ hk0
    have hd : j / k < l.length := Nat.div_lt_of_lt_mul (by rw [Nat.mul_comm]; exact hj)
    have hne : l ≠ [] := by rintro rfl; simp at hd
    have hx := K.len _ (l[j / k]).2
    obtain ⟨u, h1, h2, h3⟩ := gi.2 (j / k) (l[j / k]).1 (by simp [hd]) (j % k) _ (Ez (by rw [hx]; exact hm))
    rw [← hkt hne, Nat.mul_comm, Nat.div_add_mod] at h1
    have hu := DA h3 (K.pl _ (l[j / k]).2 _ (List.getElem_mem _))
    refine ⟨?_, ?_⟩
    · rw [NC _ _ (by simpa using hj), getElem!_pos l.toArray (j / k) (by simpa using hd)]
      simp only [List.getElem_toArray]
      rw [getElem!_pos _ _ (by rw [hx]; exact hm), ← hu, Nat.zero_add, cell_of_row w b _ C t (0, 0) rK]
      exact h1
    · simp [World.frozen?, rK]
  have acm : CmpLays P g #[] jd k (fun x y : Good dY => cf x.1 y.1) b 0 l.toArray.size w := fun m os dk hdk x y => by
    have bh : ∀ x : Good dY, aj (sortWorldK jd k w b 0 m dk os) pr aA (.agg (jd x).toArray) (.agg x.1) := fun x => .agg (by simp [jd]) (fun i c hc => by
        simp only [jd, List.getElem?_toArray, Dz, Mz] at hc
        obtain ⟨d, hd, rfl⟩ := hc
        have := K.pl _ x.2 d (Lz hd)
        cases d <;> simp only [lJ] at this <;> try (cases this; done)
        exact eU this) (fun i c d hc hd => by
        simp only [jd, List.getElem?_toArray, Dz, hd, Pz, Jz] at hc
        subst hc
        exact uO (K.pl _ x.2 d (Lz hd)))
    have hblk : ∀ b' o, pr b' o → (sortWorldK jd k w b 0 m dk os).heap[b']? = w.heap[b']? := fun b' o h => by
      have hlt := hpr b' o h
      unfold sortWorldK
      rw [heap_grow_old _ _ (by simpa [putRowK, ahead] using hlt)]
      have : b ≠ b' := fun e => hnb o (e ▸ h)
      simp [putRowK, putRow, mapBlock, Array.getElem?_modify, this, ahead]
    have ue : w.heap.size ≤ (sortWorldK jd k w b 0 m dk os).heap.size := by simp [sortWorldK, putRowK, ahead]
    refine ((K.ok x.1 y.1 x.2 y.2).calls K.body (cargs := #[.agg (jd x).toArray, .agg (jd y).toArray]) (pr := pr) (fun b' o h => Nat.lt_of_lt_of_le (hpr b' o h) ue) (hG.keeps fun b' o h => ⟨hblk b' o h, h⟩) ⟨bh x, bh y, trivial⟩).mono ?_
    rintro e w' ⟨v, pr', rfl, jg, _, _, hv⟩
    obtain ⟨rfl, _⟩ := aT.1 hv
    exact ⟨rfl, HD jg⟩
  have law := AnyQ.slices_SortFunc_eq (P := P) (ρ := ρ) L k aE zE jd Wf (fun x v hv => by
    obtain ⟨d, hd, rfl⟩ := List.mem_map.1 hv
    have := K.pl _ x.2 d hd
    cases d <;> simp only [lJ] at this <;> try (cases this; done)
    exact eU this) (fun x y : Good dY => cf x.1 y.1) K.swo g #[] b 0 cap l.toArray w (fun args w => bG K.body) acm hH hbs (by simpa using hlen)
  have hp := GI K.swo K.VX l
  have hd2 : (pdq (ltOf fun x y : Good dY => cf x.1 y.1) l.toArray 0 l.toArray.size (Lib.bitLen l.toArray.size) true true) = (bV (ltOf fun x y : Good dY => cf x.1 y.1) l).toArray := by rw [← hp]
  rw [hd2] at law
  clear hd2 hp
  have hsl := (bW (ltOf fun x y : Good dY => cf x.1 y.1) l).length_eq
  have LD : (bV (ltOf fun x y : Good dY => cf x.1 y.1) l).map (·.1) = bV (Bx cf) (l.map (·.1)) := nC (lt := ltOf fun x y : Good dY => cf x.1 y.1) (lt' := Bx cf) (f := fun x => x.1) (fun x y => rfl) l
  generalize bV (ltOf fun x y : Good dY => cf x.1 y.1) l = l' at law hsl LD
  rw [← LD]
  simp only [List.size_toArray] at law
  simp only [List.length_map]
  refine law.mono ?_
  rintro e w' ⟨rfl, n, os, rfl⟩
  have S6 : (sortWorldK jd k w b 0 n l'.toArray os).heap[b]? = some (.cells (Sort.putCells id 0 (flatK jd k l'.toArray) C) t (0, 0)) := by
    unfold sortWorldK
    rw [heap_grow_old _ _ (by simpa [putRowK, ahead] using hbs)]
    simp [putRowK, putRow, mapBlock, Array.getElem?_modify, ahead, rK, onCells]
  have ue : w.heap.size ≤ (sortWorldK jd k w b 0 n l'.toArray os).heap.size := by simp [sortWorldK, putRowK, ahead]
  refine ⟨_, pr, Sort.putCells id 0 (flatK jd k l'.toArray) C, rfl, ⟨rfl, rfl, rfl, ue, fun b' hb' hne => ?_, ?_⟩, fun _ _ h => h, fun _ _ h => .inl h, .tup rfl (fun i c x h => by simp at h), S6, by simp [Sort.putCells], ?_, ?_⟩
  · unfold sortWorldK
    rw [heap_grow_old _ _ (by simpa [putRowK, ahead] using hb')]
    have : b ≠ b' := fun e => hne e.symm
    simp [putRowK, putRow, mapBlock, Array.getElem?_modify, this, ahead]
  · simp [sortWorldK, grow, putRowK, ahead]
  · intro c hc
    obtain ⟨x, hx, rfl⟩ := List.mem_map.1 hc
    rw [K.len _ x.2]
    exact hkt (by rintro rfl; simp at hsl; simp [hsl] at hx)
  · intro i c hc j d hd
    simp only [Dz, Mz] at hc
    obtain ⟨x, hx, rfl⟩ := hc
    have hi : i < l'.length := (Gz.1 hx).1
    have hj : j < k := by rw [← K.len _ x.2]; exact (Gz.1 hd).1
    have hne : l ≠ [] := by rintro rfl; simp at hsl; simp [hsl] at hi
    have hk := hkt hne
    have e1 : (i * k + j) / k = i := (blk_iff k i _ (by omega)).1 ⟨by omega, by omega⟩
    have e2 : (i * k + j) % k = j := by rw [Nat.mod_eq_sub_div_mul, e1]; omega
    have lt : i * k + j < l'.length * k := by
      have := Nat.mul_le_mul_right k (show i + 1 ≤ l'.length from hi); rw [Nat.add_mul, Nat.one_mul] at this; omega
    have hCl : i * k + j < C.size := by
      rw [hCs, ← hk]
      have := Nat.mul_le_mul_right k (show l'.length ≤ cap by rw [hsl]; simpa using hle)
      omega
    have hpl := K.pl _ x.2 d (Lz hd)
    refine ⟨valOf d, ?_, ?_, uO hpl⟩
    · rw [← hk]
      simp only [Sort.putCells, Array.getElem?_mapIdx, Rz hCl, Pz]
      rw [if_pos ⟨Nat.zero_le _, by rw [size_flatK]; simpa using lt⟩, Nat.sub_zero, NC _ _ (by simpa using lt), e1, e2, getElem!_pos l'.toArray i (by simpa using hi)]
      simp only [List.getElem_toArray, id]
      rw [(Gz.1 hx).2]
      obtain ⟨hd1, hd2⟩ := Gz.1 hd
      rw [getElem!_pos x.1 j hd1, hd2]
    · cases d <;> simp only [lJ] at hpl <;> try (cases hpl; done)
      exact eU hpl
end
end
end Go.Proofs.YtkcfpgaepmllhaaGreatDoor
