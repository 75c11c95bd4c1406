/- X9: the library's own contracts of sorting, laid at this program: the text of the kit's command shelf_lay_g, in plain words. -/
import Derived.Shelf.SortM.Plain
import Derived.Shelf.SortM.SortNone
import Derived.Shelf.SlSortCmp.NoneTotal
import Derived.Shelf.Strings.TrimSpace
import Derived.Test.YtfgeelpahicelaaGreatDoorXG3
import Derived.Test.YtfgeelpahicelaaGreatDoorXTy
import Derived.Test.YtfgeelpahicelaaGreatDoorXG1
set_option linter.unusedVariables false
set_option linter.unusedSimpArgs false
namespace Go.Dw
open Go Go.Dx Go.Proofs Go.Sort
set_option maxRecDepth 100000
def ZLY:Go.Shelf.Ren:=⟨fun|5=>159|8=>188|7=>187|19=>223|20=>224|10=>214|11=>215|12=>216|13=>217|14=>218|15=>219|16=>220|17=>221|18=>222|30=>254|31=>255|32=>256|33=>257|34=>258|35=>259|40=>278|n=>n,fun|23=>52|25=>3|3=>3|32=>252|22=>52|0=>0|44=>284|46=>271|4=>4|36=>278|35=>277|41=>227|5=>5|9=>9|53=>306|57=>310|63=>331|64=>332|n=>n,fun|n=>n⟩
theorem ZOf:Go.Proofs.SlLaysM.n5 Tryz.prog ZLY:={
 mixed:=by kernel_rfl
 f5:=⟨Tryz.f159.name,by decide,Tryz.func159.trans (congrArg some (by kernel_rfl))⟩
 f7:=⟨Tryz.f187.name,by decide,Tryz.func187.trans (congrArg some (by kernel_rfl))⟩
 f8:=Tryz.func188.trans (congrArg some (by kernel_rfl))
 f10:=⟨Tryz.f214.name,by decide,Tryz.func214.trans (congrArg some (by kernel_rfl))⟩
 f11:=⟨Tryz.f215.name,by decide,Tryz.func215.trans (congrArg some (by kernel_rfl))⟩
 f12:=⟨Tryz.f216.name,by decide,Tryz.func216.trans (congrArg some (by kernel_rfl))⟩
 f13:=⟨Tryz.f217.name,by decide,Tryz.func217.trans (congrArg some (by kernel_rfl))⟩
 f14:=⟨Tryz.f218.name,by decide,Tryz.func218.trans (congrArg some (by kernel_rfl))⟩
 f15:=⟨Tryz.f219.name,by decide,Tryz.func219.trans (congrArg some (by kernel_rfl))⟩
 f16:=⟨Tryz.f220.name,by decide,Tryz.func220.trans (congrArg some (by kernel_rfl))⟩
 f17:=⟨Tryz.f221.name,by decide,Tryz.func221.trans (congrArg some (by kernel_rfl))⟩
 f18:=⟨Tryz.f222.name,by decide,Tryz.func222.trans (congrArg some (by kernel_rfl))⟩
 f19:=Tryz.func223.trans (congrArg some (by kernel_rfl))
 f20:=Tryz.func224.trans (congrArg some (by kernel_rfl))
 f30:=⟨Tryz.f254.name,by decide,Tryz.func254.trans (congrArg some (by kernel_rfl))⟩
 f31:=Tryz.func255.trans (congrArg some (by kernel_rfl))
 f32:=Tryz.func256.trans (congrArg some (by kernel_rfl))
 f33:=⟨Tryz.f257.name,by decide,Tryz.func257.trans (congrArg some (by kernel_rfl))⟩
 f34:=⟨Tryz.f258.name,by decide,Tryz.func258.trans (congrArg some (by kernel_rfl))⟩
 f35:=⟨Tryz.f259.name,by decide,Tryz.func259.trans (congrArg some (by kernel_rfl))⟩
 f40:=⟨Tryz.f278.name,by decide,Tryz.func278.trans (congrArg some (by kernel_rfl))⟩
 t0:=Tryz.underlying0
 a0:=Tryz.isAgg0
 z0:=Tryz.sizeOf0
 v0:=Tryz.zeroValue0
 t3:=Tryz.underlying3
 a3:=Tryz.isAgg3
 z3:=Tryz.sizeOf3
 v3:=Tryz.zeroValue3
 t4:=Tryz.underlying4
 a4:=Tryz.isAgg4
 z4:=Tryz.sizeOf4
 v4:=Tryz.zeroValue4
 t5:=Tryz.underlying5
 a5:=Tryz.isAgg5
 z5:=Tryz.sizeOf5
 v5:=Tryz.zeroValue5
 t9:=Tryz.underlying9
 a9:=Tryz.isAgg9
 z9:=Tryz.sizeOf9
 v9:=Tryz.zeroValue9
 t22:=Tryz.underlying52
 a22:=Tryz.isAgg52
 z22:=Tryz.sizeOf52
 v22:=Tryz.zeroValue52
 t23:=Tryz.underlying52
 a23:=Tryz.isAgg52
 z23:=Tryz.sizeOf52
 v23:=Tryz.zeroValue52
 t25:=Tryz.underlying3
 a25:=Tryz.isAgg3
 z25:=Tryz.sizeOf3
 v25:=Tryz.zeroValue3
 t32:=Tryz.underlying252
 a32:=Tryz.isAgg252
 z32:=Tryz.sizeOf252
 v32:=Tryz.zeroValue252
 t35:=Tryz.underlying277
 a35:=Tryz.isAgg277
 z35:=Tryz.sizeOf277
 v35:=Tryz.zeroValue277
 t36:=Tryz.underlying278
 a36:=Tryz.isAgg278
 z36:=Tryz.sizeOf278
 v36:=Tryz.zeroValue278
 t41:=Tryz.underlying227
 a41:=Tryz.isAgg227
 z41:=Tryz.sizeOf227
 v41:=Tryz.zeroValue227
 t44:=Tryz.underlying284
 a44:=Tryz.isAgg284
 z44:=Tryz.sizeOf284
 v44:=Tryz.zeroValue284
 t46:=Tryz.underlying271
 a46:=Tryz.isAgg271
 z46:=Tryz.sizeOf271
 v46:=Tryz.zeroValue271
 t53:=Tryz.underlying306
 a53:=Tryz.isAgg306
 z53:=Tryz.sizeOf306
 v53:=Tryz.zeroValue306
 t57:=Tryz.underlying310
 a57:=Tryz.isAgg310
 z57:=Tryz.sizeOf310
 v57:=Tryz.zeroValue310
 t63:=Tryz.underlying331
 a63:=Tryz.isAgg331
 z63:=Tryz.sizeOf331
 v63:=Tryz.zeroValue331
 t64:=Tryz.underlying332
 a64:=Tryz.isAgg332
 z64:=Tryz.sizeOf332
 v64:=Tryz.zeroValue332 }
def ZJw:Go.Shelf.Ren:=⟨fun|6=>174|15=>188|14=>203|28=>223|29=>224|20=>239|21=>240|22=>241|23=>242|24=>243|25=>244|26=>245|27=>246|46=>271|47=>255|48=>256|49=>272|50=>273|57=>283|n=>n,fun|22=>29|24=>51|25=>240|3=>3|39=>252|0=>0|53=>284|55=>271|4=>4|46=>278|45=>277|50=>227|5=>5|9=>9|66=>306|70=>310|76=>331|77=>332|n=>n,fun|n=>n⟩
theorem ZMO:Go.Proofs.SlLaysF0.n6 Tryz.prog ZJw:={
 mixed:=by kernel_rfl
 f6:=⟨Tryz.f174.name,by decide,Tryz.func174.trans (congrArg some (by kernel_rfl))⟩
 f14:=⟨Tryz.f203.name,by decide,Tryz.func203.trans (congrArg some (by kernel_rfl))⟩
 f15:=Tryz.func188.trans (congrArg some (by kernel_rfl))
 f20:=⟨Tryz.f239.name,by decide,Tryz.func239.trans (congrArg some (by kernel_rfl))⟩
 f21:=⟨Tryz.f240.name,by decide,Tryz.func240.trans (congrArg some (by kernel_rfl))⟩
 f22:=⟨Tryz.f241.name,by decide,Tryz.func241.trans (congrArg some (by kernel_rfl))⟩
 f23:=⟨Tryz.f242.name,by decide,Tryz.func242.trans (congrArg some (by kernel_rfl))⟩
 f24:=⟨Tryz.f243.name,by decide,Tryz.func243.trans (congrArg some (by kernel_rfl))⟩
 f25:=⟨Tryz.f244.name,by decide,Tryz.func244.trans (congrArg some (by kernel_rfl))⟩
 f26:=⟨Tryz.f245.name,by decide,Tryz.func245.trans (congrArg some (by kernel_rfl))⟩
 f27:=⟨Tryz.f246.name,by decide,Tryz.func246.trans (congrArg some (by kernel_rfl))⟩
 f28:=Tryz.func223.trans (congrArg some (by kernel_rfl))
 f29:=Tryz.func224.trans (congrArg some (by kernel_rfl))
 f46:=⟨Tryz.f271.name,by decide,Tryz.func271.trans (congrArg some (by kernel_rfl))⟩
 f47:=Tryz.func255.trans (congrArg some (by kernel_rfl))
 f48:=Tryz.func256.trans (congrArg some (by kernel_rfl))
 f49:=⟨Tryz.f272.name,by decide,Tryz.func272.trans (congrArg some (by kernel_rfl))⟩
 f50:=⟨Tryz.f273.name,by decide,Tryz.func273.trans (congrArg some (by kernel_rfl))⟩
 f57:=⟨Tryz.f283.name,by decide,Tryz.func283.trans (congrArg some (by kernel_rfl))⟩
 t0:=Tryz.underlying0
 a0:=Tryz.isAgg0
 z0:=Tryz.sizeOf0
 v0:=Tryz.zeroValue0
 t3:=Tryz.underlying3
 a3:=Tryz.isAgg3
 z3:=Tryz.sizeOf3
 v3:=Tryz.zeroValue3
 t4:=Tryz.underlying4
 a4:=Tryz.isAgg4
 z4:=Tryz.sizeOf4
 v4:=Tryz.zeroValue4
 t5:=Tryz.underlying5
 a5:=Tryz.isAgg5
 z5:=Tryz.sizeOf5
 v5:=Tryz.zeroValue5
 t9:=Tryz.underlying9
 a9:=Tryz.isAgg9
 z9:=Tryz.sizeOf9
 v9:=Tryz.zeroValue9
 t22:=Tryz.underlying29
 a22:=Tryz.isAgg29
 z22:=Tryz.sizeOf29
 v22:=Tryz.zeroValue29
 t25:=Tryz.underlying240
 a25:=Tryz.isAgg240
 z25:=Tryz.sizeOf240
 v25:=Tryz.zeroValue240
 t39:=Tryz.underlying252
 a39:=Tryz.isAgg252
 z39:=Tryz.sizeOf252
 v39:=Tryz.zeroValue252
 t45:=Tryz.underlying277
 a45:=Tryz.isAgg277
 z45:=Tryz.sizeOf277
 v45:=Tryz.zeroValue277
 t46:=Tryz.underlying278
 a46:=Tryz.isAgg278
 z46:=Tryz.sizeOf278
 v46:=Tryz.zeroValue278
 t50:=Tryz.underlying227
 a50:=Tryz.isAgg227
 z50:=Tryz.sizeOf227
 v50:=Tryz.zeroValue227
 t53:=Tryz.underlying284
 a53:=Tryz.isAgg284
 z53:=Tryz.sizeOf284
 v53:=Tryz.zeroValue284
 t55:=Tryz.underlying271
 a55:=Tryz.isAgg271
 z55:=Tryz.sizeOf271
 v55:=Tryz.zeroValue271
 t66:=Tryz.underlying306
 a66:=Tryz.isAgg306
 z66:=Tryz.sizeOf306
 v66:=Tryz.zeroValue306
 t70:=Tryz.underlying310
 a70:=Tryz.isAgg310
 z70:=Tryz.sizeOf310
 v70:=Tryz.zeroValue310
 t76:=Tryz.underlying331
 a76:=Tryz.isAgg331
 z76:=Tryz.sizeOf331
 v76:=Tryz.zeroValue331
 t77:=Tryz.underlying332
 a77:=Tryz.isAgg332
 z77:=Tryz.sizeOf332
 v77:=Tryz.zeroValue332 }
end Go.Dw
namespace Go.Dw
open Go Go.Dx Go.Proofs
set_option maxRecDepth 100000
def ZCo:Go.Shelf.Ren:=⟨fun|120=>270|163=>182|197=>236|199=>207|237=>206|238=>208|260=>268|261=>248|271=>238|272=>247|273=>249|311=>274|312=>275|315=>209|n=>n,fun|0=>0|3=>3|4=>4|5=>5|9=>9|21=>21|37=>101|40=>246|46=>252|49=>324|51=>284|105=>293|119=>268|138=>341|139=>342|196=>323|141=>302|198=>326|193=>320|201=>329|194=>321|226=>344|227=>345|n=>n,fun|0=>0|3=>6|4=>7|6=>1|n=>n⟩
theorem layTrim:Go.Proofs.Lays.n163 Tryz.prog ZCo:={
 mixed:=by kernel_rfl
 f120:=Tryz.func270.trans (congrArg some (by kernel_rfl))
 f163:=Tryz.func182.trans (congrArg some (by kernel_rfl))
 f197:=Tryz.func236.trans (congrArg some (by kernel_rfl))
 f199:=Tryz.func207.trans (congrArg some (by kernel_rfl))
 f237:=Tryz.func206.trans (congrArg some (by kernel_rfl))
 f238:=Tryz.func208.trans (congrArg some (by kernel_rfl))
 f260:=Tryz.func268.trans (congrArg some (by kernel_rfl))
 f261:=Tryz.func248.trans (congrArg some (by kernel_rfl))
 f271:=Tryz.func238.trans (congrArg some (by kernel_rfl))
 f272:=Tryz.func247.trans (congrArg some (by kernel_rfl))
 f273:=Tryz.func249.trans (congrArg some (by kernel_rfl))
 f311:=Tryz.func274.trans (congrArg some (by kernel_rfl))
 f312:=Tryz.func275.trans (congrArg some (by kernel_rfl))
 f315:=Tryz.func209.trans (congrArg some (by kernel_rfl))
 t0:=Tryz.underlying0
 a0:=Tryz.isAgg0
 z0:=Tryz.sizeOf0
 v0:=Tryz.zeroValue0
 t3:=Tryz.underlying3
 a3:=Tryz.isAgg3
 z3:=Tryz.sizeOf3
 v3:=Tryz.zeroValue3
 t4:=Tryz.underlying4
 a4:=Tryz.isAgg4
 z4:=Tryz.sizeOf4
 v4:=Tryz.zeroValue4
 t5:=Tryz.underlying5
 a5:=Tryz.isAgg5
 z5:=Tryz.sizeOf5
 v5:=Tryz.zeroValue5
 t9:=Tryz.underlying9
 a9:=Tryz.isAgg9
 z9:=Tryz.sizeOf9
 v9:=Tryz.zeroValue9
 t21:=Tryz.underlying21
 a21:=Tryz.isAgg21
 z21:=Tryz.sizeOf21
 v21:=Tryz.zeroValue21
 t37:=Tryz.underlying101
 a37:=Tryz.isAgg101
 z37:=Tryz.sizeOf101
 v37:=Tryz.zeroValue101
 t40:=Tryz.underlying246
 a40:=Tryz.isAgg246
 z40:=Tryz.sizeOf246
 v40:=Tryz.zeroValue246
 t46:=Tryz.underlying252
 a46:=Tryz.isAgg252
 z46:=Tryz.sizeOf252
 v46:=Tryz.zeroValue252
 t49:=Tryz.underlying324
 a49:=Tryz.isAgg324
 z49:=Tryz.sizeOf324
 v49:=Tryz.zeroValue324
 t51:=Tryz.underlying284
 a51:=Tryz.isAgg284
 z51:=Tryz.sizeOf284
 v51:=Tryz.zeroValue284
 t105:=Tryz.underlying293
 a105:=Tryz.isAgg293
 z105:=Tryz.sizeOf293
 v105:=Tryz.zeroValue293
 t119:=Tryz.underlying268
 a119:=Tryz.isAgg268
 z119:=Tryz.sizeOf268
 t138:=Tryz.underlying341
 a138:=Tryz.isAgg341
 z138:=Tryz.sizeOf341
 v138:=Tryz.zeroValue341
 t139:=Tryz.underlying342
 a139:=Tryz.isAgg342
 z139:=Tryz.sizeOf342
 v139:=Tryz.zeroValue342
 t141:=Tryz.underlying302
 a141:=Tryz.isAgg302
 z141:=Tryz.sizeOf302
 v141:=Tryz.zeroValue302
 t193:=Tryz.underlying320
 a193:=Tryz.isAgg320
 z193:=Tryz.sizeOf320
 v193:=Tryz.zeroValue320
 t194:=Tryz.underlying321
 a194:=Tryz.isAgg321
 z194:=Tryz.sizeOf321
 v194:=Tryz.zeroValue321
 t196:=Tryz.underlying323
 a196:=Tryz.isAgg323
 z196:=Tryz.sizeOf323
 v196:=Tryz.zeroValue323
 t198:=Tryz.underlying326
 a198:=Tryz.isAgg326
 z198:=Tryz.sizeOf326
 v198:=Tryz.zeroValue326
 t201:=Tryz.underlying329
 a201:=Tryz.isAgg329
 z201:=Tryz.sizeOf329
 v201:=Tryz.zeroValue329
 t226:=Tryz.underlying344
 a226:=Tryz.isAgg344
 z226:=Tryz.sizeOf344
 v226:=Tryz.zeroValue344
 t227:=Tryz.underlying345
 a227:=Tryz.isAgg345
 z227:=Tryz.sizeOf345
 v227:=Tryz.zeroValue345
 g0:=by kernel_rfl
 g3:=by kernel_rfl
 g4:=by kernel_rfl
 g6:=by kernel_rfl
}
theorem extraTrim:Go.Proofs.Space.Extra Tryz.prog ZCo:=⟨by kernel_rfl⟩
end Go.Dw
namespace Go.Dx
open Go.Proofs
def spTab:List Value:=Lib.asciiSpaceTab.map fun z=>Value.int .u8 z
theorem ZIX {s r:List UInt8}(hs:s.length<=9223372036854775807)(ha:∀b∈s,b.toNat<128)(hr:Lib.trimSpace s=r):OrcT Tryz.prog spTab 182 [.string ⟨⟨s⟩⟩] (.string ⟨⟨r⟩⟩):=by
 refine⟨rfl,rfl,fun w hw=>?_⟩;obtain⟨t,fz,hw⟩:=hw;have htab : Lib.TabIs Tryz.prog w "strings.asciiSpace" .u8 Lib.asciiSpaceTab := by
  unfold Lib.TabIs World.var?;rw[Go.Dw.extraTrim.gNamed]
  show (match w.heap[0]? with|some (.cells cs _ _)=>some cs|_=>none)=_
  rw[hw]
  rfl
 refine (Go.Proofs.Any.strings_TrimSpace Go.Dw.layTrim Go.Dw.extraTrim ⟨⟨s⟩⟩ w hs (fun j b hj=>ha b (List.mem_of_getElem? hj)) htab).mono ?_;rintro e w' ⟨rfl,rfl⟩;refine⟨by rw[<-hr],by rw[Lib.bytesWorld_size];omega,fun c hc=>Lib.bytesWorld_at_old w _ _ c hc,rfl,rfl⟩
end Go.Dx
