/- Part of the proof: symbolic execution of the program, its soundness, and the closing lemmas. No condition. -/
import Derived.Test.YtdepmampjnlgiaaGreatDoorEag
import Derived.Shelf.SlSortCmp.WholeK
import Derived.Shelf.SlGeneric
import Derived.Shelf.Lays
import Derived.Ground.SlsfProg
import Derived.Ground.NamesProg
namespace Go.Proofs.YtdepmampjnlgiaaGreatDoor
open Go.RowKit
set_option maxRecDepth 100000
set_option linter.all false
end Go.Proofs.YtdepmampjnlgiaaGreatDoor
namespace Go.Proofs
open Go.Shelf
def Tryz.qM:Go.Shelf.Ren:=⟨fun|6=>104|15=>97|14=>171|28=>161|29=>162|20=>228|21=>229|22=>230|23=>231|24=>232|25=>233|26=>234|27=>235|46=>286|47=>221|48=>222|49=>287|50=>288|57=>315|n=>n,fun|22=>125|24=>50|25=>194|3=>3|39=>187|0=>0|53=>271|55=>153|4=>4|46=>264|45=>263|50=>196|5=>5|9=>9|66=>320|70=>324|76=>394|77=>173|n=>n,fun|n=>n⟩
theorem Tryz.K0:Go.Proofs.SlLaysF0.n6 Tryz.prog Tryz.qM:={
 mixed:=by kernel_rfl
 f6:=⟨Tryz.f104.name,by decide,Tryz.func104.trans (congrArg some (by kernel_rfl))⟩
 f14:=⟨Tryz.f171.name,by decide,Tryz.func171.trans (congrArg some (by kernel_rfl))⟩
 f15:=Tryz.func97.trans (congrArg some (by kernel_rfl))
 f20:=⟨Tryz.f228.name,by decide,Tryz.func228.trans (congrArg some (by kernel_rfl))⟩
 f21:=⟨Tryz.f229.name,by decide,Tryz.func229.trans (congrArg some (by kernel_rfl))⟩
 f22:=⟨Tryz.f230.name,by decide,Tryz.func230.trans (congrArg some (by kernel_rfl))⟩
 f23:=⟨Tryz.f231.name,by decide,Tryz.func231.trans (congrArg some (by kernel_rfl))⟩
 f24:=⟨Tryz.f232.name,by decide,Tryz.func232.trans (congrArg some (by kernel_rfl))⟩
 f25:=⟨Tryz.f233.name,by decide,Tryz.func233.trans (congrArg some (by kernel_rfl))⟩
 f26:=⟨Tryz.f234.name,by decide,Tryz.func234.trans (congrArg some (by kernel_rfl))⟩
 f27:=⟨Tryz.f235.name,by decide,Tryz.func235.trans (congrArg some (by kernel_rfl))⟩
 f28:=Tryz.func161.trans (congrArg some (by kernel_rfl))
 f29:=Tryz.func162.trans (congrArg some (by kernel_rfl))
 f46:=⟨Tryz.f286.name,by decide,Tryz.func286.trans (congrArg some (by kernel_rfl))⟩
 f47:=Tryz.func221.trans (congrArg some (by kernel_rfl))
 f48:=Tryz.func222.trans (congrArg some (by kernel_rfl))
 f49:=⟨Tryz.f287.name,by decide,Tryz.func287.trans (congrArg some (by kernel_rfl))⟩
 f50:=⟨Tryz.f288.name,by decide,Tryz.func288.trans (congrArg some (by kernel_rfl))⟩
 f57:=⟨Tryz.f315.name,by decide,Tryz.func315.trans (congrArg some (by kernel_rfl))⟩
 t0:=Tryz.underlying0
 a0:=Tryz.isAgg0
 z0:=Tryz.sizeOf0
 v0:=Tryz.zeroValue0
 t3:=Tryz.underlying3
 a3:=Tryz.isAgg3
 z3:=Tryz.sizeOf3
 v3:=Tryz.zeroValue3
 t4:=Tryz.underlying4
 a4:=Tryz.isAgg4
 z4:=Tryz.sizeOf4
 v4:=Tryz.zeroValue4
 t5:=Tryz.underlying5
 a5:=Tryz.isAgg5
 z5:=Tryz.sizeOf5
 v5:=Tryz.zeroValue5
 t9:=Tryz.underlying9
 a9:=Tryz.isAgg9
 z9:=Tryz.sizeOf9
 v9:=Tryz.zeroValue9
 t22:=Tryz.underlying125
 a22:=Tryz.isAgg125
 z22:=Tryz.sizeOf125
 v22:=Tryz.zeroValue125
 t25:=Tryz.underlying194
 a25:=Tryz.isAgg194
 z25:=Tryz.sizeOf194
 v25:=Tryz.zeroValue194
 t39:=Tryz.underlying187
 a39:=Tryz.isAgg187
 z39:=Tryz.sizeOf187
 v39:=Tryz.zeroValue187
 t45:=Tryz.underlying263
 a45:=Tryz.isAgg263
 z45:=Tryz.sizeOf263
 v45:=Tryz.zeroValue263
 t46:=Tryz.underlying264
 a46:=Tryz.isAgg264
 z46:=Tryz.sizeOf264
 v46:=Tryz.zeroValue264
 t50:=Tryz.underlying196
 a50:=Tryz.isAgg196
 z50:=Tryz.sizeOf196
 v50:=Tryz.zeroValue196
 t53:=Tryz.underlying271
 a53:=Tryz.isAgg271
 z53:=Tryz.sizeOf271
 v53:=Tryz.zeroValue271
 t55:=Tryz.underlying153
 a55:=Tryz.isAgg153
 z55:=Tryz.sizeOf153
 v55:=Tryz.zeroValue153
 t66:=Tryz.underlying320
 a66:=Tryz.isAgg320
 z66:=Tryz.sizeOf320
 v66:=Tryz.zeroValue320
 t70:=Tryz.underlying324
 a70:=Tryz.isAgg324
 z70:=Tryz.sizeOf324
 v70:=Tryz.zeroValue324
 t76:=Tryz.underlying394
 a76:=Tryz.isAgg394
 z76:=Tryz.sizeOf394
 v76:=Tryz.zeroValue394
 t77:=Tryz.underlying173
 a77:=Tryz.isAgg173
 z77:=Tryz.sizeOf173
 v77:=Tryz.zeroValue173}
def Tryz.nq:Go.Shelf.Ren:=⟨fun|6=>61|15=>97|14=>108|28=>161|29=>162|20=>173|21=>174|22=>175|23=>176|24=>177|25=>178|26=>179|27=>180|46=>236|47=>221|48=>222|49=>237|50=>238|57=>289|n=>n,fun|22=>30|24=>69|25=>140|3=>3|39=>187|0=>0|53=>271|55=>153|4=>4|46=>264|45=>263|50=>196|5=>5|9=>9|66=>320|70=>324|76=>394|77=>173|n=>n,fun|n=>n⟩
theorem Tryz.wy:Go.Proofs.SlLaysF0.n6 Tryz.prog Tryz.nq:={
 mixed:=by kernel_rfl
 f6:=⟨Tryz.f61.name,by decide,Tryz.func61.trans (congrArg some (by kernel_rfl))⟩
 f14:=⟨Tryz.f108.name,by decide,Tryz.func108.trans (congrArg some (by kernel_rfl))⟩
 f15:=Tryz.func97.trans (congrArg some (by kernel_rfl))
 f20:=⟨Tryz.f173.name,by decide,Tryz.func173.trans (congrArg some (by kernel_rfl))⟩
 f21:=⟨Tryz.f174.name,by decide,Tryz.func174.trans (congrArg some (by kernel_rfl))⟩
 f22:=⟨Tryz.f175.name,by decide,Tryz.func175.trans (congrArg some (by kernel_rfl))⟩
 f23:=⟨Tryz.f176.name,by decide,Tryz.func176.trans (congrArg some (by kernel_rfl))⟩
 f24:=⟨Tryz.f177.name,by decide,Tryz.func177.trans (congrArg some (by kernel_rfl))⟩
 f25:=⟨Tryz.f178.name,by decide,Tryz.func178.trans (congrArg some (by kernel_rfl))⟩
 f26:=⟨Tryz.f179.name,by decide,Tryz.func179.trans (congrArg some (by kernel_rfl))⟩
 f27:=⟨Tryz.f180.name,by decide,Tryz.func180.trans (congrArg some (by kernel_rfl))⟩
 f28:=Tryz.func161.trans (congrArg some (by kernel_rfl))
 f29:=Tryz.func162.trans (congrArg some (by kernel_rfl))
 f46:=⟨Tryz.f236.name,by decide,Tryz.func236.trans (congrArg some (by kernel_rfl))⟩
 f47:=Tryz.func221.trans (congrArg some (by kernel_rfl))
 f48:=Tryz.func222.trans (congrArg some (by kernel_rfl))
 f49:=⟨Tryz.f237.name,by decide,Tryz.func237.trans (congrArg some (by kernel_rfl))⟩
 f50:=⟨Tryz.f238.name,by decide,Tryz.func238.trans (congrArg some (by kernel_rfl))⟩
 f57:=⟨Tryz.f289.name,by decide,Tryz.func289.trans (congrArg some (by kernel_rfl))⟩
 t0:=Tryz.underlying0
 a0:=Tryz.isAgg0
 z0:=Tryz.sizeOf0
 v0:=Tryz.zeroValue0
 t3:=Tryz.underlying3
 a3:=Tryz.isAgg3
 z3:=Tryz.sizeOf3
 v3:=Tryz.zeroValue3
 t4:=Tryz.underlying4
 a4:=Tryz.isAgg4
 z4:=Tryz.sizeOf4
 v4:=Tryz.zeroValue4
 t5:=Tryz.underlying5
 a5:=Tryz.isAgg5
 z5:=Tryz.sizeOf5
 v5:=Tryz.zeroValue5
 t9:=Tryz.underlying9
 a9:=Tryz.isAgg9
 z9:=Tryz.sizeOf9
 v9:=Tryz.zeroValue9
 t22:=Tryz.underlying30
 a22:=Tryz.isAgg30
 z22:=Tryz.sizeOf30
 v22:=Tryz.zeroValue30
 t25:=Tryz.underlying140
 a25:=Tryz.isAgg140
 z25:=Tryz.sizeOf140
 v25:=Tryz.zeroValue140
 t39:=Tryz.underlying187
 a39:=Tryz.isAgg187
 z39:=Tryz.sizeOf187
 v39:=Tryz.zeroValue187
 t45:=Tryz.underlying263
 a45:=Tryz.isAgg263
 z45:=Tryz.sizeOf263
 v45:=Tryz.zeroValue263
 t46:=Tryz.underlying264
 a46:=Tryz.isAgg264
 z46:=Tryz.sizeOf264
 v46:=Tryz.zeroValue264
 t50:=Tryz.underlying196
 a50:=Tryz.isAgg196
 z50:=Tryz.sizeOf196
 v50:=Tryz.zeroValue196
 t53:=Tryz.underlying271
 a53:=Tryz.isAgg271
 z53:=Tryz.sizeOf271
 v53:=Tryz.zeroValue271
 t55:=Tryz.underlying153
 a55:=Tryz.isAgg153
 z55:=Tryz.sizeOf153
 v55:=Tryz.zeroValue153
 t66:=Tryz.underlying320
 a66:=Tryz.isAgg320
 z66:=Tryz.sizeOf320
 v66:=Tryz.zeroValue320
 t70:=Tryz.underlying324
 a70:=Tryz.isAgg324
 z70:=Tryz.sizeOf324
 v70:=Tryz.zeroValue324
 t76:=Tryz.underlying394
 a76:=Tryz.isAgg394
 z76:=Tryz.sizeOf394
 v76:=Tryz.zeroValue394
 t77:=Tryz.underlying173
 a77:=Tryz.isAgg173
 z77:=Tryz.sizeOf173
 v77:=Tryz.zeroValue173}
def Tryz.oZ:Go.Shelf.Ren:=⟨fun|6=>54|15=>97|14=>103|28=>161|29=>162|20=>163|21=>164|22=>165|23=>166|24=>167|25=>168|26=>169|27=>170|46=>225|47=>221|48=>222|49=>226|50=>227|57=>285|n=>n,fun|22=>33|24=>77|25=>123|3=>3|39=>187|0=>0|53=>271|55=>153|4=>4|46=>264|45=>263|50=>196|5=>5|9=>9|66=>320|70=>324|76=>394|77=>173|n=>n,fun|n=>n⟩
theorem Tryz.Iz:Go.Proofs.SlLaysF0.n6 Tryz.prog Tryz.oZ:={
 mixed:=by kernel_rfl
 f6:=⟨Tryz.f54.name,by decide,Tryz.func54.trans (congrArg some (by kernel_rfl))⟩
 f14:=⟨Tryz.f103.name,by decide,Tryz.func103.trans (congrArg some (by kernel_rfl))⟩
 f15:=Tryz.func97.trans (congrArg some (by kernel_rfl))
 f20:=⟨Tryz.f163.name,by decide,Tryz.func163.trans (congrArg some (by kernel_rfl))⟩
 f21:=⟨Tryz.f164.name,by decide,Tryz.func164.trans (congrArg some (by kernel_rfl))⟩
 f22:=⟨Tryz.f165.name,by decide,Tryz.func165.trans (congrArg some (by kernel_rfl))⟩
 f23:=⟨Tryz.f166.name,by decide,Tryz.func166.trans (congrArg some (by kernel_rfl))⟩
 f24:=⟨Tryz.f167.name,by decide,Tryz.func167.trans (congrArg some (by kernel_rfl))⟩
 f25:=⟨Tryz.f168.name,by decide,Tryz.func168.trans (congrArg some (by kernel_rfl))⟩
 f26:=⟨Tryz.f169.name,by decide,Tryz.func169.trans (congrArg some (by kernel_rfl))⟩
 f27:=⟨Tryz.f170.name,by decide,Tryz.func170.trans (congrArg some (by kernel_rfl))⟩
 f28:=Tryz.func161.trans (congrArg some (by kernel_rfl))
 f29:=Tryz.func162.trans (congrArg some (by kernel_rfl))
 f46:=⟨Tryz.f225.name,by decide,Tryz.func225.trans (congrArg some (by kernel_rfl))⟩
 f47:=Tryz.func221.trans (congrArg some (by kernel_rfl))
 f48:=Tryz.func222.trans (congrArg some (by kernel_rfl))
 f49:=⟨Tryz.f226.name,by decide,Tryz.func226.trans (congrArg some (by kernel_rfl))⟩
 f50:=⟨Tryz.f227.name,by decide,Tryz.func227.trans (congrArg some (by kernel_rfl))⟩
 f57:=⟨Tryz.f285.name,by decide,Tryz.func285.trans (congrArg some (by kernel_rfl))⟩
 t0:=Tryz.underlying0
 a0:=Tryz.isAgg0
 z0:=Tryz.sizeOf0
 v0:=Tryz.zeroValue0
 t3:=Tryz.underlying3
 a3:=Tryz.isAgg3
 z3:=Tryz.sizeOf3
 v3:=Tryz.zeroValue3
 t4:=Tryz.underlying4
 a4:=Tryz.isAgg4
 z4:=Tryz.sizeOf4
 v4:=Tryz.zeroValue4
 t5:=Tryz.underlying5
 a5:=Tryz.isAgg5
 z5:=Tryz.sizeOf5
 v5:=Tryz.zeroValue5
 t9:=Tryz.underlying9
 a9:=Tryz.isAgg9
 z9:=Tryz.sizeOf9
 v9:=Tryz.zeroValue9
 t22:=Tryz.underlying33
 a22:=Tryz.isAgg33
 z22:=Tryz.sizeOf33
 v22:=Tryz.zeroValue33
 t25:=Tryz.underlying123
 a25:=Tryz.isAgg123
 z25:=Tryz.sizeOf123
 v25:=Tryz.zeroValue123
 t39:=Tryz.underlying187
 a39:=Tryz.isAgg187
 z39:=Tryz.sizeOf187
 v39:=Tryz.zeroValue187
 t45:=Tryz.underlying263
 a45:=Tryz.isAgg263
 z45:=Tryz.sizeOf263
 v45:=Tryz.zeroValue263
 t46:=Tryz.underlying264
 a46:=Tryz.isAgg264
 z46:=Tryz.sizeOf264
 v46:=Tryz.zeroValue264
 t50:=Tryz.underlying196
 a50:=Tryz.isAgg196
 z50:=Tryz.sizeOf196
 v50:=Tryz.zeroValue196
 t53:=Tryz.underlying271
 a53:=Tryz.isAgg271
 z53:=Tryz.sizeOf271
 v53:=Tryz.zeroValue271
 t55:=Tryz.underlying153
 a55:=Tryz.isAgg153
 z55:=Tryz.sizeOf153
 v55:=Tryz.zeroValue153
 t66:=Tryz.underlying320
 a66:=Tryz.isAgg320
 z66:=Tryz.sizeOf320
 v66:=Tryz.zeroValue320
 t70:=Tryz.underlying324
 a70:=Tryz.isAgg324
 z70:=Tryz.sizeOf324
 v70:=Tryz.zeroValue324
 t76:=Tryz.underlying394
 a76:=Tryz.isAgg394
 z76:=Tryz.sizeOf394
 v76:=Tryz.zeroValue394
 t77:=Tryz.underlying173
 a77:=Tryz.isAgg173
 z77:=Tryz.sizeOf173
 v77:=Tryz.zeroValue173}
def Tryz.qL:Go.Shelf.Ren:=⟨fun|189=>48|125=>97|257=>96|128=>161|129=>162|294=>152|295=>153|296=>154|297=>155|298=>156|299=>157|216=>158|300=>159|301=>160|328=>220|329=>221|330=>222|331=>223|332=>224|215=>102|343=>284|n=>n,fun|28=>55|3=>3|46=>187|0=>0|51=>271|53=>153|4=>4|183=>264|182=>263|131=>196|5=>5|9=>9|218=>320|222=>324|228=>394|229=>173|n=>n,fun|n=>n⟩
theorem Tryz.sortInt:Go.Proofs.Lays.n189 Tryz.prog Tryz.qL:={
 mixed:=by kernel_rfl
 f125:=Tryz.func97.trans (congrArg some (by kernel_rfl))
 f128:=Tryz.func161.trans (congrArg some (by kernel_rfl))
 f129:=Tryz.func162.trans (congrArg some (by kernel_rfl))
 f189:=Tryz.func48.trans (congrArg some (by kernel_rfl))
 f215:=Tryz.func102.trans (congrArg some (by kernel_rfl))
 f216:=Tryz.func158.trans (congrArg some (by kernel_rfl))
 f257:=Tryz.func96.trans (congrArg some (by kernel_rfl))
 f294:=Tryz.func152.trans (congrArg some (by kernel_rfl))
 f295:=Tryz.func153.trans (congrArg some (by kernel_rfl))
 f296:=Tryz.func154.trans (congrArg some (by kernel_rfl))
 f297:=Tryz.func155.trans (congrArg some (by kernel_rfl))
 f298:=Tryz.func156.trans (congrArg some (by kernel_rfl))
 f299:=Tryz.func157.trans (congrArg some (by kernel_rfl))
 f300:=Tryz.func159.trans (congrArg some (by kernel_rfl))
 f301:=Tryz.func160.trans (congrArg some (by kernel_rfl))
 f328:=Tryz.func220.trans (congrArg some (by kernel_rfl))
 f329:=Tryz.func221.trans (congrArg some (by kernel_rfl))
 f330:=Tryz.func222.trans (congrArg some (by kernel_rfl))
 f331:=Tryz.func223.trans (congrArg some (by kernel_rfl))
 f332:=Tryz.func224.trans (congrArg some (by kernel_rfl))
 f343:=Tryz.func284.trans (congrArg some (by kernel_rfl))
 t0:=Tryz.underlying0
 a0:=Tryz.isAgg0
 z0:=Tryz.sizeOf0
 v0:=Tryz.zeroValue0
 t3:=Tryz.underlying3
 a3:=Tryz.isAgg3
 z3:=Tryz.sizeOf3
 v3:=Tryz.zeroValue3
 t4:=Tryz.underlying4
 a4:=Tryz.isAgg4
 z4:=Tryz.sizeOf4
 v4:=Tryz.zeroValue4
 t5:=Tryz.underlying5
 a5:=Tryz.isAgg5
 z5:=Tryz.sizeOf5
 v5:=Tryz.zeroValue5
 t9:=Tryz.underlying9
 a9:=Tryz.isAgg9
 z9:=Tryz.sizeOf9
 v9:=Tryz.zeroValue9
 t28:=Tryz.underlying55
 a28:=Tryz.isAgg55
 z28:=Tryz.sizeOf55
 v28:=Tryz.zeroValue55
 t46:=Tryz.underlying187
 a46:=Tryz.isAgg187
 z46:=Tryz.sizeOf187
 v46:=Tryz.zeroValue187
 t51:=Tryz.underlying271
 a51:=Tryz.isAgg271
 z51:=Tryz.sizeOf271
 v51:=Tryz.zeroValue271
 t53:=Tryz.underlying153
 a53:=Tryz.isAgg153
 z53:=Tryz.sizeOf153
 v53:=Tryz.zeroValue153
 t131:=Tryz.underlying196
 a131:=Tryz.isAgg196
 z131:=Tryz.sizeOf196
 v131:=Tryz.zeroValue196
 t182:=Tryz.underlying263
 a182:=Tryz.isAgg263
 z182:=Tryz.sizeOf263
 v182:=Tryz.zeroValue263
 t183:=Tryz.underlying264
 a183:=Tryz.isAgg264
 z183:=Tryz.sizeOf264
 v183:=Tryz.zeroValue264
 t218:=Tryz.underlying320
 a218:=Tryz.isAgg320
 z218:=Tryz.sizeOf320
 v218:=Tryz.zeroValue320
 t222:=Tryz.underlying324
 a222:=Tryz.isAgg324
 z222:=Tryz.sizeOf324
 v222:=Tryz.zeroValue324
 t228:=Tryz.underlying394
 a228:=Tryz.isAgg394
 z228:=Tryz.sizeOf394
 v228:=Tryz.zeroValue394
 t229:=Tryz.underlying173
 a229:=Tryz.isAgg173
 z229:=Tryz.sizeOf173
 v229:=Tryz.zeroValue173}
end Go.Proofs
namespace Go.Proofs.YtdepmampjnlgiaaGreatDoor
open Go.RowKit
set_option maxRecDepth 100000
set_option linter.all false
section
open Go.RowKit Go.Lib Go.Sort
theorem F6{w w':World}(h:cW (fun _=>False) w w'): ∃q os',w'=grow (w.drewN q) os':=by
 refine⟨w'.drawn-w.drawn,w'.heap.extract w.heap.size w'.heap.size, ?_⟩
 have hh:w'.heap=w.heap++w'.heap.extract w.heap.size w'.heap.size:=by
  apply Array.ext_getElem?;intro i;by_cases hi:i<w.heap.size
  ·rw[Array.getElem?_append_left hi];exact h.block i hi id
  ·rw[Array.getElem?_append_right (by omega)];have hs:=h.size;by_cases hj:i<w'.heap.size
   ·rw[Rz hj,Rz (by simp;omega)];simp only[Array.getElem_extract];congr 2;omega
   ·rw[Array.getElem?_eq_none (by omega),Array.getElem?_eq_none (by simp;omega)]
 have hd:=h.drawn;have h1:=h.os;have h2:=h.tape;have h3:=h.output;obtain⟨heap,tape,drawn,os,output⟩:=w;obtain⟨acZ,adl,Z3,os',Zq⟩:=w';simp only[grow,World.drewN]at*;subst h1 h2 h3;rw[←hh];congr 1;omega
end
section
open Go.RowKit Go.Lib Go.Sort Go.Shelf
def valOf:D→Value
 | .v x=>x
 |_=>undef
def jG:D→Bool
 | .v x=>p8 x
 |_=>false
theorem BY{w:World}{pr:aT}{tk:ag}{u:Value}{d:D}(h:ai w pr tk u d)(hd:jG d=true):u=valOf d:=by
 cases d<;>simp only[jG]at hd<;>try (cases hd;done)
 exact(aP.1 h).1
theorem tD{w:World}{pr:aT}{tk:ag}{d:D}(hd:jG d=true):ai w pr tk (valOf d) d:=by
 cases d<;>simp only[jG]at hd<;>try (cases hd;done)
 exact .v hd
structure wK(P:Program)(g k:Nat)(dQ:List D→Bool)(cf:List D→List D→Int):Prop where
 len: ∀x,dQ x=true→x.length=k
 pl: ∀x,dQ x=true→ ∀d∈x,jG d=true
 ok: ∀x y,dQ x=true→dQ y=true→wM P g [.agg x, .agg y] (.v (.int .i64 (cf x y)))
 body:cX P g
 lt:g<1000000
 irrefl: ∀x,dQ x=true→ ¬cf x x<0
 trans: ∀x y z,dQ x=true→dQ y=true→dQ z=true→cf x y<0→cf y z<0→cf x z<0
 ntrans: ∀x y z,dQ x=true→dQ y=true→dQ z=true→ ¬cf x y<0→ ¬cf y z<0→ ¬cf x z<0
 anti: ∀x y,dQ x=true→dQ y=true→ ¬cf x y<0→ ¬cf y x<0→x=y
theorem wM.calls{P:Program}{f:Nat}{ds:List D}{d:D}(h:wM P f ds d)(hb:cX P f){w:World}{pr:aT}{cargs:Array Value}(hpr: ∀b o,pr b o→b<w.heap.size)(hG:AQ w pr)(hr:aX w pr aI cargs.toList ds):
  Calls P f cargs w fun e w'=> ∃v pr',e= .returned v∧cW (fun _=>False) w w'∧(∀b o,pr b o→pr' b o)∧(∀b o,pr' b o→pr b o∨(w.heap.size≤b∧b<w'.heap.size))∧ai w' pr' aI v d:=by
 rcases h with h|⟨_,h⟩
 ·obtain⟨v,h1,_⟩:=h w pr cargs hr;rw[bI hb]at h1;cases h1
 ·grind
def uT{α:Type}(lt:α→α→Bool)(x:α):List α→List α
 | []=> [x]
 |y::r=>bif lt x y then x::y::r else y::uT lt x r
def cL{α:Type}(lt:α→α→Bool):List α→List α
 | []=> []
 |x::r=>uT lt x (cL lt r)
theorem pQ{α:Type}(lt:α→α→Bool)(x:α): ∀(l:List α),(uT lt x l).Perm (x::l)
 | []=> .refl _
 |y::r=>by
  simp only[uT];cases lt x y
  ·exact((pQ lt x r).cons y).trans (.swap x y r)
  ·exact .refl _
theorem b9{α:Type}(lt:α→α→Bool): ∀(l:List α),(cL lt l).Perm l
 | []=> .refl _
 |x::r=>(pQ lt x _).trans ((b9 lt r).cons x)
theorem qE{α:Type}{lt:α→α→Bool}(h:SWO lt)(x:α): ∀{l:List α},l.Pairwise (fun a b=>lt b a=false)→(uT lt x l).Pairwise (fun a b=>lt b a=false)
 | [],_=>by simp[uT]
 |y::r,hp=>by
  obtain⟨h1,h2⟩:=List.pairwise_cons.1 hp;simp only[uT];cases hl:lt x y
  ·refine List.pairwise_cons.2 ⟨fun z hz=> ?_,qE h x h2⟩;rcases List.mem_cons.1 ((pQ lt x r).mem_iff.1 hz)with rfl|hz
   ·exact hl
   ·grind
  ·refine List.pairwise_cons.2 ⟨fun z hz=> ?_,hp⟩;rcases List.mem_cons.1 hz with rfl|hz
   ·cases hq:lt z x
    ·rfl
    ·have:=h.trans _ _ _ hl hq;rw[h.irrefl]at this;cases this
   ·cases hq:lt z x
    ·rfl
    ·have:=h.trans _ _ _ hq hl;rw[h1 z hz]at this;cases this
theorem dm{α:Type}{lt:α→α→Bool}(h:SWO lt): ∀(l:List α),(cL lt l).Pairwise (fun a b=>lt b a=false)
 | []=> .nil
 |x::r=>qE h x (dm h r)
theorem zJ{α β:Type}{lt:α→α→Bool}{lt':β→β→Bool}{f:α→β}(h: ∀x y,lt' (f x) (f y)=lt x y)(x:α): ∀(l:List α),(uT lt x l).map f=uT lt' (f x) (l.map f)
 | []=>rfl
 |y::r=>by
  simp only[uT,List.map_cons,h];cases lt x y
  ·simp[zJ h x r]
  ·simp
theorem kC{α β:Type}{lt:α→α→Bool}{lt':β→β→Bool}{f:α→β}(h: ∀x y,lt' (f x) (f y)=lt x y): ∀(l:List α),(cL lt l).map f=cL lt' (l.map f)
 | []=>rfl
 |x::r=>by simp only[cL,List.map_cons,zJ h,kC h r]
theorem EY{α:Type} [Inhabited α]{lt:α→α→Bool}(h:SWO lt)(ha: ∀x y,lt x y=false→lt y x=false→x=y)(l:List α):(pdq lt l.toArray 0 l.toArray.size (Lib.bitLen l.toArray.size) true true).toList=cL lt l:=by
 obtain⟨h1,h2⟩:=pdq_sorts lt h l.toArray 0 l.toArray.size (Lib.bitLen l.toArray.size) true true (Nat.zero_le _) (Nat.le_refl _) (Or.inl rfl);rw[sorted_unique_holds h ha _ _ h1 h2];have hp:=b9 lt l;have hl:=hp.length_eq;refine(sorted_unique_holds h ha l.toArray (cL lt l).toArray ⟨by simpa using hl,fun i hi=> ?_,by simpa[hl,List.take_of_length_le (Nat.le_of_eq hl)]using hp⟩ ?_).symm
 ·have hi:l.length≤i:=by rcases hi with h|h;omega;simpa using h
  rw[getElem!_neg _ _ (by simp;omega),getElem!_neg _ _ (by simp;omega)]
 ·intro i j _ hij hj;have hj:j<l.length:=by simpa using hj
  have hs:=List.pairwise_iff_getElem.1 (dm h l) i j (by omega) (by omega) hij;rw[getElem!_pos _ _ (by simp;omega),getElem!_pos _ _ (by simp;omega)];simpa using hs
section
variable {P : Program} {g k : Nat} {dQ : List D → Bool} {cf : List D → List D → Int}
def ES(cf:List D→List D→Int)(x y:List D):Bool:=decide (cf x y<0)
abbrev Good(dQ:List D→Bool):={x:List D//dQ x=true}
def je(x:Good dQ):List Value:=x.1.map valOf
theorem wK.swo(K:wK P g k dQ cf):SWO (ltOf fun x y:Good dQ=>cf x.1 y.1):=
 ⟨fun x=>decide_eq_false (K.irrefl x.1 x.2),fun x y z h1 h2=>decide_eq_true (K.trans x.1 y.1 z.1 x.2 y.2 z.2 (of_decide_eq_true h1) (of_decide_eq_true h2)),
  fun x y z h1 h2=>decide_eq_false (K.ntrans x.1 y.1 z.1 x.2 y.2 z.2 (of_decide_eq_false h1) (of_decide_eq_false h2))⟩
theorem wK.Tn(K:wK P g k dQ cf)(x y:Good dQ)(h1:ltOf (fun x y:Good dQ=>cf x.1 y.1) x y=false)(h2:ltOf (fun x y:Good dQ=>cf x.1 y.1) y x=false):x=y:=
 Subtype.ext (K.anti x.1 y.1 x.2 y.2 (of_decide_eq_false h1) (of_decide_eq_false h2))
theorem wK.sort (K : wK P g k dQ cf) {ρ : Shelf.Ren} (L : SlLaysF0.n6 P ρ) (aE : ∀ w, (isAgg (ρ.t 24)).run P w = .ok true w) (zE : ∀ w, (Go.sizeOf (ρ.t 24)).run P w = .ok k w) (hb : cX P (ρ.f 6))
     {x0 : List D} (hx0 : dQ x0 = true) {es : List (List D)} (hes : ∀ x ∈ es, dQ x = true) (hlen : es.length < 4611686018427387904) (P7 : es = [] → wM P (ρ.f 6) [.list [], .clo g []] (.tup [])) :
    OL P 0 (ρ.f 6) [.list es, .clo g []] es (cL (ES cf) es) (.tup []) := by
  refine ⟨hb, (b9 _ es).length_eq, fun w pr cargs hpr hG hcs UC => ?_⟩
  have hc1 : cargs[1]? = some (.func (.func g) #[] #[]) := by
    have h1 : (1 : Nat) < cargs.size := by rw [hcs]; simp
    have h := UC 1 _ _ (by decide) (Rz h1) rfl
    rw [Rz h1]
    generalize cargs[1] = v at h
    have hlt := K.lt
    cases h with
    | clo hf hs hr => have := Array.eq_empty_of_size_eq_zero hs; subst this; rfl
    | bclo hs hr => omega
  have two : ∀ v, cargs[0]? = some v → cargs = #[v, .func (.func g) #[] #[]] := fun v hv => by
    grind
  refine ⟨fun he hk => ?_, fun b cap t C hnb iT hle jB hCs gO hk => ?_⟩
  · subst he
    rw [two _ hk]
    exact (P7 rfl).calls hb hpr hG ⟨.nil', .clo K.lt rfl fun i c x h => by simp at h, trivial⟩
  rw [two _ hk]
  letI : Inhabited (Good dQ) := ⟨⟨x0, hx0⟩⟩
  obtain ⟨l, rfl⟩ : ∃ l : List (Good dQ), es = l.map (·.1) := ⟨es.pmap Subtype.mk hes, by simp [List.map_pmap]⟩
  have hbs : b < w.heap.size := (Array.getElem?_eq_some_iff.1 iT).1
  have hkt : l ≠ [] → k = P.cellsOf t := fun hne => by
    cases l with
    | nil => exact absurd rfl hne
    | cons x r => rw [← gO.1 x.1 (by simp)]; exact (K.len x.1 x.2).symm
  have TE : ∀ x : Good dQ, (je x).length = k := fun x => by simp [je, K.len x.1 x.2]
  have LK : ∀ (d : Array (Good dQ)) (j : Nat), j < d.size * k → (flatK je k d)[j]! = valOf ((d[j / k]!).1[j % k]!) := fun d j hj => by
    have hk0 : 0 < k := by rcases Nat.eq_zero_or_pos k with h | h; subst h; simp at hj; exact h
    have hm : j % k < k := Nat.mod_lt _ hk0
    have hl := K.len _ (d[j / k]!).2
    rw [get_flatK _ _ _ _ hj]
    have e1 : (je (d[j / k]!))[j % k]! = (je (d[j / k]!))[j % k]'(by rw [TE]; exact hm) := getElem!_pos _ _ _
    have e2 : (d[j / k]!).1[j % k]! = (d[j / k]!).1[j % k]'(by rw [hl]; exact hm) := getElem!_pos _ _ _
    rw [e1, e2]
    simp [je]
  have hH : HoldsK je k w b 0 l.toArray := fun j hj => by
    simp only [size_flatK, List.size_toArray] at hj
    have hk0 : 0 < k := by rcases Nat.eq_zero_or_pos k with h | h; subst h; simp at hj; exact h
    have hm : j % k < k := Nat.mod_lt _ hk0
    have hd : j / k < l.length := Nat.div_lt_of_lt_mul (by rw [Nat.mul_comm]; exact hj)
    have hne : l ≠ [] := by rintro rfl; simp at hd
    have hx := K.len _ (l[j / k]).2
    obtain ⟨u, h1, h2, h3⟩ := gO.2 (j / k) (l[j / k]).1 (by simp [hd]) (j % k) _ (Ez (by rw [hx]; exact hm))
    rw [← hkt hne, Nat.mul_comm, Nat.div_add_mod] at h1
    have hu := BY h3 (K.pl _ (l[j / k]).2 _ (List.getElem_mem _))
    refine ⟨?_, ?_⟩
    · rw [LK _ _ (by simpa using hj), getElem!_pos l.toArray (j / k) (by simpa using hd)]
      simp only [List.getElem_toArray]
      rw [getElem!_pos _ _ (by rw [hx]; exact hm), ← hu, Nat.zero_add, cell_of_row w b _ C t (0, 0) iT]
      exact h1
    · simp [World.frozen?, iT]
  have ν : CmpLays P g #[] je k (fun x y : Good dQ => cf x.1 y.1) b 0 l.toArray.size w := fun m os dk hdk x y => by
    have a6 : ∀ x : Good dQ, ai (sortWorldK je k w b 0 m dk os) pr aI (.agg (je x).toArray) (.agg x.1) := fun x => .agg (by simp [je]) (fun i c hc => by
        simp only [je, List.getElem?_toArray, Dz, Mz] at hc
        obtain ⟨d, hd, rfl⟩ := hc
        have := K.pl _ x.2 d (Lz hd)
        cases d <;> simp only [jG] at this <;> try (cases this; done)
        exact eG this) (fun i c d hc hd => by
        simp only [je, List.getElem?_toArray, Dz, hd, Pz, Jz] at hc
        subst hc
        exact tD (K.pl _ x.2 d (Lz hd)))
    have hblk : ∀ b' o, pr b' o → (sortWorldK je k w b 0 m dk os).heap[b']? = w.heap[b']? := fun b' o h => by
      have hlt := hpr b' o h
      unfold sortWorldK
      rw [heap_grow_old _ _ (by simpa [putRowK, ahead] using hlt)]
      have : b ≠ b' := fun e => hnb o (e ▸ h)
      simp [putRowK, putRow, mapBlock, Array.getElem?_modify, this, ahead]
    have oE : w.heap.size ≤ (sortWorldK je k w b 0 m dk os).heap.size := by simp [sortWorldK, putRowK, ahead]
    refine ((K.ok x.1 y.1 x.2 y.2).calls K.body (cargs := #[.agg (je x).toArray, .agg (je y).toArray]) (pr := pr) (fun b' o h => Nat.lt_of_lt_of_le (hpr b' o h) oE) (hG.keeps fun b' o h => ⟨hblk b' o h, h⟩) ⟨a6 x, a6 y, trivial⟩).mono ?_
    rintro e w' ⟨v, pr', rfl, jf, _, _, hv⟩
    obtain ⟨rfl, _⟩ := aP.1 hv
    exact ⟨rfl, F6 jf⟩
  have law := AnyQ.slices_SortFunc_eq (P := P) (ρ := ρ) L k aE zE je TE (fun x v hv => by
    obtain ⟨d, hd, rfl⟩ := List.mem_map.1 hv
    have := K.pl _ x.2 d hd
    cases d <;> simp only [jG] at this <;> try (cases this; done)
    exact eG this) (fun x y : Good dQ => cf x.1 y.1) K.swo g #[] b 0 cap l.toArray w (fun args w => bI K.body) ν hH hbs (by simpa using hlen)
  have hp := EY K.swo K.Tn l
  have hd2 : (pdq (ltOf fun x y : Good dQ => cf x.1 y.1) l.toArray 0 l.toArray.size (Lib.bitLen l.toArray.size) true true) = (cL (ltOf fun x y : Good dQ => cf x.1 y.1) l).toArray := by rw [← hp]
  rw [hd2] at law
  clear hd2 hp
  have hsl := (b9 (ltOf fun x y : Good dQ => cf x.1 y.1) l).length_eq
  have JT : (cL (ltOf fun x y : Good dQ => cf x.1 y.1) l).map (·.1) = cL (ES cf) (l.map (·.1)) := kC (lt := ltOf fun x y : Good dQ => cf x.1 y.1) (lt' := ES cf) (f := fun x => x.1) (fun x y => rfl) l
  generalize cL (ltOf fun x y : Good dQ => cf x.1 y.1) l = l' at law hsl JT
  rw [← JT]
  simp only [List.size_toArray] at law
  simp only [List.length_map]
  refine law.mono ?_
  rintro e w' ⟨rfl, n, os, rfl⟩
  have Br : (sortWorldK je k w b 0 n l'.toArray os).heap[b]? = some (.cells (Sort.putCells id 0 (flatK je k l'.toArray) C) t (0, 0)) := by
    unfold sortWorldK
    rw [heap_grow_old _ _ (by simpa [putRowK, ahead] using hbs)]
    simp [putRowK, putRow, mapBlock, Array.getElem?_modify, ahead, iT, onCells]
  have oE : w.heap.size ≤ (sortWorldK je k w b 0 n l'.toArray os).heap.size := by simp [sortWorldK, putRowK, ahead]
  refine ⟨_, pr, Sort.putCells id 0 (flatK je k l'.toArray) C, rfl, ⟨rfl, rfl, rfl, oE, fun b' hb' hne => ?_, ?_⟩, fun _ _ h => h, fun _ _ h => .inl h, .tup rfl (fun i c x h => by simp at h), Br, by simp [Sort.putCells], ?_, ?_⟩
  · unfold sortWorldK
    rw [heap_grow_old _ _ (by simpa [putRowK, ahead] using hb')]
    have : b ≠ b' := fun e => hne e.symm
    simp [putRowK, putRow, mapBlock, Array.getElem?_modify, this, ahead]
  · simp [sortWorldK, grow, putRowK, ahead]
  · intro c hc
    obtain ⟨x, hx, rfl⟩ := List.mem_map.1 hc
    rw [K.len _ x.2]
    exact hkt (by rintro rfl; simp at hsl; simp [hsl] at hx)
  · intro i c hc j d hd
    simp only [Dz, Mz] at hc
    obtain ⟨x, hx, rfl⟩ := hc
    have hi : i < l'.length := (Gz.1 hx).1
    have hj : j < k := by rw [← K.len _ x.2]; exact (Gz.1 hd).1
    have hne : l ≠ [] := by rintro rfl; simp at hsl; simp [hsl] at hi
    have hk := hkt hne
    have e1 : (i * k + j) / k = i := (blk_iff k i _ (by omega)).1 ⟨by omega, by omega⟩
    have e2 : (i * k + j) % k = j := by rw [Nat.mod_eq_sub_div_mul, e1]; omega
    have lt : i * k + j < l'.length * k := by
      have := Nat.mul_le_mul_right k (show i + 1 ≤ l'.length from hi); rw [Nat.add_mul, Nat.one_mul] at this; omega
    have hCl : i * k + j < C.size := by
      rw [hCs, ← hk]
      have := Nat.mul_le_mul_right k (show l'.length ≤ cap by rw [hsl]; simpa using hle)
      omega
    have hpl := K.pl _ x.2 d (Lz hd)
    refine ⟨valOf d, ?_, ?_, tD hpl⟩
    · rw [← hk]
      simp only [Sort.putCells, Array.getElem?_mapIdx, Rz hCl, Pz]
      rw [if_pos ⟨Nat.zero_le _, by rw [size_flatK]; simpa using lt⟩, Nat.sub_zero, LK _ _ (by simpa using lt), e1, e2, getElem!_pos l'.toArray i (by simpa using hi)]
      simp only [List.getElem_toArray, id]
      rw [(Gz.1 hx).2]
      obtain ⟨hd1, hd2⟩ := Gz.1 hd
      rw [getElem!_pos x.1 j hd1, hd2]
    · cases d <;> simp only [jG] at hpl <;> try (cases hpl; done)
      exact eG hpl
end
end
end Go.Proofs.YtdepmampjnlgiaaGreatDoor
