/- Y0: contracts: slices.SortFunc of structs of the function's own, by a function that compares. -/
import Derived.Test.YtphonfljfmedgaaGreatDoorAG10
import Derived.Test.YtphonfljfmedgaaGreatDoorAG2
import Derived.Test.YtphonfljfmedgaaGreatDoorAG9
set_option linter.unusedVariables false
set_option linter.unusedSimpArgs false
namespace Go.Dw
open Go Go.Dx Go.Proofs Go.Sort Go.RowKit Go.Lib
set_option maxRecDepth 100000
section
variable {P:Program} {α:Type}{lt:α->α->Prop}{L:List α}{cf:α->α->Int}
theorem swoG (hS:ZCL lt)(hc:∀x∈L,∀y∈L,(cf x y<0 ↔ lt x y)):SWO (ltOf fun x y:{z // z∈L}=>cf x.1 y.1):=by
 have e:∀x y:{z // z∈L},ltOf (fun x y:{z // z∈L}=>cf x.1 y.1) x y=true ↔ lt x.1 y.1:=fun x y=>by
  unfold ltOf;rw[decide_eq_true_iff,hc _ x.2 _ y.2]
 have e':∀x y:{z // z∈L},ltOf (fun x y:{z // z∈L}=>cf x.1 y.1) x y=false ↔ ¬lt x.1 y.1:=fun x y=>by
  rw[<-e,Bool.not_eq_true]
 refine⟨fun x=>?_,fun x y z h1 h2=>?_,fun x y z h1 h2=>?_⟩
 ·rw[e'];exact hS.irr _
 ·rw[e] at h1 h2 ⊢;exact hS.tr h1 h2
 ·rw[e'] at h1 h2 ⊢
  intro h
  rcases hS.tri x.1 y.1 with g|g|g
  ·exact h1 g
  ·rw[g] at h;exact h2 h
  ·exact h2 (hS.tr g h)
theorem ZDm {enc:α->List Value}(hf:∀x,ZBZ (enc x)=true):∀l:List α,ZBZ (l.flatMap enc)=true
 | []=>rfl
 | x::l=>by
  rw[List.flatMap_cons]
  have key:∀a:List Value,ZBZ a=true->ZBZ (a++l.flatMap enc)=true:=fun a=>by
   induction a with
   | nil=>intro _;exact ZDm hf l
   | cons v a ih =>
    intro h;simp only[ZBZ,Bool.and_eq_true,List.cons_append] at h ⊢;exact⟨h.1,ih h.2⟩
  exact key _ (hf x)
theorem ZMU {ρ:Go.Shelf.Ren}(lay:Go.Proofs.SlLaysF0.n6 P ρ){k:Nat}{el:TypeId}(hk0:0<k)(aE:∀w,(isAgg (ρ.t 24)).run P w=.ok true w)(zE:∀w,(Go.sizeOf (ρ.t 24)).run P w=.ok k w){enc:α->List Value}(hk:∀x,(enc x).length=k)(h1:∀x,∀v∈enc x,v.oneCell'=true)(hfl:∀x,ZBZ (enc x)=true)
  {g:FuncId} (eg:∀args w,(callFunc g args).run P w=.ok (.enter g args) w) (hS:ZCL lt) (hc:∀x∈L,∀y∈L,(cf x y<0 ↔ lt x y)) (hcmp:∀x∈L,∀y∈L,∀h,Sv P g [.agg ⟨enc x⟩,.agg ⟨enc y⟩] h (RetP fun v h'=>v=i64 (cf x y)/\Ext h h'))
  {h0 h:Heap} {v:Value} {T:List α} (hF:ZAE h0 h v el k (L.flatMap enc) L.length) (hn:L.length<1000000) (hT:T.Pairwise lt) (hm:∀e,e∈T ↔ e∈L) (hLn:L.Nodup) (hv0:L=[]->v=.slice none 0 0) :
  Sv P (ρ.f 6) [v,.func (.func g) ⟨[]⟩ ⟨[]⟩] h (RetP fun r h'=>r=.tuple ⟨[]⟩/\ZAE h0 h' v el k (T.flatMap enc) L.length/\Exb (fun c=>ZBi v=some c) h h'):=by
 refine⟨fun ι w args' hr hv=>?_⟩;obtain⟨l',rfl,hv⟩:=hv.arr
 cases hv with
 | cons hv1 hv2 =>
  cases hv2 with
  | cons hv3 hv4 =>
   cases hv4;have e3:=hv3.flat_eq rfl;subst e3
   rcases hF.lies hr hv1 hk0 with ⟨rfl,rfl,hz,hn0⟩|⟨b,bi,op,cap,c,hb,hg,hi,rfl,hcc,hle,hV,hl,hnew⟩
   ·have:L=[]:=List.eq_nil_of_length_eq_zero hn0
    subst this;have:T=[]:=List.eq_nil_iff_forall_not_mem.2 fun e he=>absurd ((hm e).1 he) List.not_mem_nil;subst this;refine (AnyF.slices_SortFunc_none lay none 0 _ w).mono ?_;rintro e w' ⟨rfl,rfl⟩;exact⟨.ret (.tuple ⟨[]⟩) h,⟨rfl,ZAE.nil _ _ _ _,Exb.refl _ _⟩,ZHu hr (VR.of_flat ι rfl) ⟨⟨Nat.le_refl _,fun _ _=>rfl,rfl,rfl⟩,rfl,Nat.le_refl _⟩⟩
   ·rcases Nat.eq_zero_or_pos L.length with h00|h00
    ·rw[hv0 (List.eq_nil_of_length_eq_zero h00)] at hb
     cases hb
    haveI:Inhabited {z // z∈L}:=⟨⟨L[0],List.getElem_mem h00⟩⟩
    have hfm:L.attach.flatMap (fun z=>enc z.1)=L.flatMap enc:=by
     conv=>rhs;rw[<-List.attach_map_subtype_val L]
     rw[List.flatMap_map]
    have hal:L.attach.length=L.length:=List.length_attach;have hlen:∀l:List α,(l.flatMap enc).length=l.length*k:=ZBB hk;have hcz:=hV.flat_eq (ZDm hfl L);rw[hlen] at hle hcz;have hfl2:(flatK (fun z:{z // z∈L}=>enc z.1) k L.attach.toArray).toList=c.toList.take (L.length*k):=by rw[ZH5 (enc:=fun z:{z // z∈L}=>enc z.1) (k:=k) hk0 (fun z=>hk z.1),hcz];exact hfm
    have hH:HoldsK (fun z:{z // z∈L}=>enc z.1) k w bi.blk 0 L.attach.toArray:=ZRT (enc:=id) hcc (by rw[size_flatK,List.size_toArray,hal,hfl2,List.map_id]);obtain⟨hbs,-⟩:=Array.getElem?_eq_some_iff.1 hcc;have hswo:=swoG (cf:=cf) hS hc
    have hK:=AnyQ.slices_SortFunc_total lay k aE zE (fun z:{z // z∈L}=>enc z.1) (fun z=>hk z.1) (fun z=>h1 z.1) (fun x y=>cf x.1 y.1) hswo g #[] bi.blk 0 cap L.attach.toArray w eg (fun _ _ _ _ x y=>ZNj (args:=[.agg ⟨enc x.1⟩,.agg ⟨enc y.1⟩]) (by
      show (ZBZ (enc x.1) && (ZBZ (enc y.1) && true))=true
      rw[hfl,hfl];rfl) rfl (fun h=>hcmp _ x.2 _ y.2 h) _) hH hbs (by simp;omega) (fun x y h1 h2=>by
      unfold ltOf at h1 h2;rw[decide_eq_false_iff_not,hc _ x.2 _ y.2] at h1;rw[decide_eq_false_iff_not,hc _ y.2 _ x.2] at h2;refine Subtype.ext ?_
      rcases hS.tri x.1 y.1 with q|q|q
      ·exact absurd q h1
      ·exact q
      ·exact absurd q h2)
    rw[List.size_toArray,hal] at hK;refine hK.mono ?_;rintro e w' ⟨rfl,q,os,rfl⟩;have hperm:=List.mergeSort_perm L.attach (fun x y=>!(ltOf fun x y:{z // z∈L}=>cf x.1 y.1) y x)
    have hsort:=List.pairwise_mergeSort (le:=fun x y=>!(ltOf fun x y:{z // z∈L}=>cf x.1 y.1) y x) (fun a b c h1 h2=>by
     rw[Bool.not_eq_true'] at h1 h2 ⊢;exact hswo.ntrans _ _ _ h2 h1) (fun a b=>by
     rw[Bool.or_eq_true,Bool.not_eq_true',Bool.not_eq_true']
     cases hq:(ltOf fun x y:{z // z∈L}=>cf x.1 y.1) b a with
     | false=>exact .inl rfl
     | true =>
      refine .inr ?_
      cases hq2:(ltOf fun x y:{z // z∈L}=>cf x.1 y.1) a b with
      | false=>rfl
      | true=>have:=hswo.trans _ _ _ hq hq2;rw[hswo.irrefl] at this;cases this) L.attach
    have eT:L.attach.toArray.toList=L.attach:=rfl;rw[eT];generalize (L.attach.mergeSort fun x y=>!(ltOf fun x y:{z // z∈L}=>cf x.1 y.1) y x)=R' at *;have hpm:(R'.map Subtype.val).Perm L:=by
     have:=hperm.map Subtype.val
     rwa [List.attach_map_subtype_val] at this
    have hRn:(R'.map Subtype.val).Nodup:=hpm.symm.nodup hLn;have hRT:R'.map Subtype.val=T:=by
     refine ZH2 hS ?_ hT fun e=>by rw[hpm.mem_iff,hm]
     refine List.pairwise_map.2 ((hsort.and (List.pairwise_map.1 hRn)).imp fun {a b} ⟨h1,h2⟩=>?_);rw[Bool.not_eq_true'] at h1;unfold ltOf at h1;rw[decide_eq_false_iff_not,hc _ b.2 _ a.2] at h1
     rcases hS.tri a.1 b.1 with g|g|g
     ·exact g
     ·exact absurd g h2
     ·exact absurd g h1
    have hsl:R'.length=L.length:=by have:=hpm.length_eq;rwa [List.length_map] at this
    have hRf:R'.flatMap (fun z:{z // z∈L}=>enc z.1)=T.flatMap enc:=by rw[<-hRT,List.flatMap_map]
    have hTl:T.length=L.length:=by rw[<-hRT,List.length_map,hsl]
    have hfs:(flatK (fun z:{z // z∈L}=>enc z.1) k R'.toArray).size=L.length*k:=by rw[size_flatK,List.size_toArray,hsl]
    have hfR:(flatK (fun z:{z // z∈L}=>enc z.1) k R'.toArray).toList=T.flatMap enc:=by rw[ZH5 (enc:=fun z:{z // z∈L}=>enc z.1) (k:=k) hk0 (fun z=>hk z.1)];exact hRf
    have hP:=ZOl (h:=h) (vs2:=T.flatMap enc) (c2:=putCells id 0 (flatK (fun z:{z // z∈L}=>enc z.1) k R'.toArray) c) (r:=.tuple ⟨[]⟩) (r':=.tuple ⟨[]⟩) hr hg hi hcc ZJB (by rw[hlen,hlen,hTl]) (by
     have:=ZIr (enc:=id) (d:=flatK (fun z:{z // z∈L}=>enc z.1) k R'.toArray) (c:=c) (by rw[hfs];exact hle);rw[hfs,List.map_id,hfR] at this;rw[hlen,hTl,this];exact VRL.of_flat ι (ZDm hfl _)) (VR.of_flat ι rfl) (ZO2 (enc:=id) (d:=flatK (fun z:{z // z∈L}=>enc z.1) k R'.toArray) (n:=q) (os:=os) hcc).1 (ZO2 hcc).2 rfl rfl
    refine⟨.ret (.tuple ⟨[]⟩) (h.set b (.cells (T.flatMap enc) el op)),⟨rfl,hnew _ _ op (by rw[hlen,hlen,hTl]) (Upd.mk' h b _).at',?_⟩,hP⟩;refine (Exb.ofUpd (Upd.mk' h b _)).mono fun x hx=>by rw[hx];exact hb
end
def ZJ1:Go.Shelf.Ren:=⟨fun|6=>57|15=>73|14=>88|28=>106|29=>107|20=>126|21=>127|22=>128|23=>129|24=>130|25=>131|26=>132|27=>133|46=>154|47=>139|48=>140|49=>155|50=>156|57=>170|n=>n,fun|22=>29|24=>46|25=>147|3=>3|39=>168|0=>0|53=>178|55=>204|4=>4|46=>196|45=>195|50=>200|5=>5|9=>9|66=>240|70=>244|76=>262|77=>171|n=>n,fun|n=>n⟩
theorem ZQq:Go.Proofs.SlLaysF0.n6 Tryz.prog ZJ1:={
 mixed:=by kernel_rfl
 f6:=⟨Tryz.f57.name,by decide,Tryz.func57.trans (congrArg some (by kernel_rfl))⟩
 f14:=⟨Tryz.f88.name,by decide,Tryz.func88.trans (congrArg some (by kernel_rfl))⟩
 f15:=Tryz.func73.trans (congrArg some (by kernel_rfl))
 f20:=⟨Tryz.f126.name,by decide,Tryz.func126.trans (congrArg some (by kernel_rfl))⟩
 f21:=⟨Tryz.f127.name,by decide,Tryz.func127.trans (congrArg some (by kernel_rfl))⟩
 f22:=⟨Tryz.f128.name,by decide,Tryz.func128.trans (congrArg some (by kernel_rfl))⟩
 f23:=⟨Tryz.f129.name,by decide,Tryz.func129.trans (congrArg some (by kernel_rfl))⟩
 f24:=⟨Tryz.f130.name,by decide,Tryz.func130.trans (congrArg some (by kernel_rfl))⟩
 f25:=⟨Tryz.f131.name,by decide,Tryz.func131.trans (congrArg some (by kernel_rfl))⟩
 f26:=⟨Tryz.f132.name,by decide,Tryz.func132.trans (congrArg some (by kernel_rfl))⟩
 f27:=⟨Tryz.f133.name,by decide,Tryz.func133.trans (congrArg some (by kernel_rfl))⟩
 f28:=Tryz.func106.trans (congrArg some (by kernel_rfl))
 f29:=Tryz.func107.trans (congrArg some (by kernel_rfl))
 f46:=⟨Tryz.f154.name,by decide,Tryz.func154.trans (congrArg some (by kernel_rfl))⟩
 f47:=Tryz.func139.trans (congrArg some (by kernel_rfl))
 f48:=Tryz.func140.trans (congrArg some (by kernel_rfl))
 f49:=⟨Tryz.f155.name,by decide,Tryz.func155.trans (congrArg some (by kernel_rfl))⟩
 f50:=⟨Tryz.f156.name,by decide,Tryz.func156.trans (congrArg some (by kernel_rfl))⟩
 f57:=⟨Tryz.f170.name,by decide,Tryz.func170.trans (congrArg some (by kernel_rfl))⟩
 t0:=Tryz.underlying0
 a0:=Tryz.isAgg0
 z0:=Tryz.sizeOf0
 v0:=Tryz.zeroValue0
 t3:=Tryz.underlying3
 a3:=Tryz.isAgg3
 z3:=Tryz.sizeOf3
 v3:=Tryz.zeroValue3
 t4:=Tryz.underlying4
 a4:=Tryz.isAgg4
 z4:=Tryz.sizeOf4
 v4:=Tryz.zeroValue4
 t5:=Tryz.underlying5
 a5:=Tryz.isAgg5
 z5:=Tryz.sizeOf5
 v5:=Tryz.zeroValue5
 t9:=Tryz.underlying9
 a9:=Tryz.isAgg9
 z9:=Tryz.sizeOf9
 v9:=Tryz.zeroValue9
 t22:=Tryz.underlying29
 a22:=Tryz.isAgg29
 z22:=Tryz.sizeOf29
 v22:=Tryz.zeroValue29
 t25:=Tryz.underlying147
 a25:=Tryz.isAgg147
 z25:=Tryz.sizeOf147
 v25:=Tryz.zeroValue147
 t39:=Tryz.underlying168
 a39:=Tryz.isAgg168
 z39:=Tryz.sizeOf168
 v39:=Tryz.zeroValue168
 t45:=Tryz.underlying195
 a45:=Tryz.isAgg195
 z45:=Tryz.sizeOf195
 v45:=Tryz.zeroValue195
 t46:=Tryz.underlying196
 a46:=Tryz.isAgg196
 z46:=Tryz.sizeOf196
 v46:=Tryz.zeroValue196
 t50:=Tryz.underlying200
 a50:=Tryz.isAgg200
 z50:=Tryz.sizeOf200
 v50:=Tryz.zeroValue200
 t53:=Tryz.underlying178
 a53:=Tryz.isAgg178
 z53:=Tryz.sizeOf178
 v53:=Tryz.zeroValue178
 t55:=Tryz.underlying204
 a55:=Tryz.isAgg204
 z55:=Tryz.sizeOf204
 v55:=Tryz.zeroValue204
 t66:=Tryz.underlying240
 a66:=Tryz.isAgg240
 z66:=Tryz.sizeOf240
 v66:=Tryz.zeroValue240
 t70:=Tryz.underlying244
 a70:=Tryz.isAgg244
 z70:=Tryz.sizeOf244
 v70:=Tryz.zeroValue244
 t76:=Tryz.underlying262
 a76:=Tryz.isAgg262
 z76:=Tryz.sizeOf262
 v76:=Tryz.zeroValue262
 t77:=Tryz.underlying171
 a77:=Tryz.isAgg171
 z77:=Tryz.sizeOf171
 v77:=Tryz.zeroValue171 }
def ZJz:Go.Shelf.Ren:=⟨fun|6=>40|15=>73|14=>72|28=>106|29=>107|20=>98|21=>99|22=>100|23=>101|24=>102|25=>103|26=>104|27=>105|46=>138|47=>139|48=>140|49=>141|50=>142|57=>157|n=>n,fun|22=>47|24=>96|25=>112|3=>3|39=>168|0=>0|53=>178|55=>204|4=>4|46=>196|45=>195|50=>200|5=>5|9=>9|66=>240|70=>244|76=>262|77=>171|n=>n,fun|n=>n⟩
theorem ZRt:Go.Proofs.SlLaysF0.n6 Tryz.prog ZJz:={
 mixed:=by kernel_rfl
 f6:=⟨Tryz.f40.name,by decide,Tryz.func40.trans (congrArg some (by kernel_rfl))⟩
 f14:=⟨Tryz.f72.name,by decide,Tryz.func72.trans (congrArg some (by kernel_rfl))⟩
 f15:=Tryz.func73.trans (congrArg some (by kernel_rfl))
 f20:=⟨Tryz.f98.name,by decide,Tryz.func98.trans (congrArg some (by kernel_rfl))⟩
 f21:=⟨Tryz.f99.name,by decide,Tryz.func99.trans (congrArg some (by kernel_rfl))⟩
 f22:=⟨Tryz.f100.name,by decide,Tryz.func100.trans (congrArg some (by kernel_rfl))⟩
 f23:=⟨Tryz.f101.name,by decide,Tryz.func101.trans (congrArg some (by kernel_rfl))⟩
 f24:=⟨Tryz.f102.name,by decide,Tryz.func102.trans (congrArg some (by kernel_rfl))⟩
 f25:=⟨Tryz.f103.name,by decide,Tryz.func103.trans (congrArg some (by kernel_rfl))⟩
 f26:=⟨Tryz.f104.name,by decide,Tryz.func104.trans (congrArg some (by kernel_rfl))⟩
 f27:=⟨Tryz.f105.name,by decide,Tryz.func105.trans (congrArg some (by kernel_rfl))⟩
 f28:=Tryz.func106.trans (congrArg some (by kernel_rfl))
 f29:=Tryz.func107.trans (congrArg some (by kernel_rfl))
 f46:=⟨Tryz.f138.name,by decide,Tryz.func138.trans (congrArg some (by kernel_rfl))⟩
 f47:=Tryz.func139.trans (congrArg some (by kernel_rfl))
 f48:=Tryz.func140.trans (congrArg some (by kernel_rfl))
 f49:=⟨Tryz.f141.name,by decide,Tryz.func141.trans (congrArg some (by kernel_rfl))⟩
 f50:=⟨Tryz.f142.name,by decide,Tryz.func142.trans (congrArg some (by kernel_rfl))⟩
 f57:=⟨Tryz.f157.name,by decide,Tryz.func157.trans (congrArg some (by kernel_rfl))⟩
 t0:=Tryz.underlying0
 a0:=Tryz.isAgg0
 z0:=Tryz.sizeOf0
 v0:=Tryz.zeroValue0
 t3:=Tryz.underlying3
 a3:=Tryz.isAgg3
 z3:=Tryz.sizeOf3
 v3:=Tryz.zeroValue3
 t4:=Tryz.underlying4
 a4:=Tryz.isAgg4
 z4:=Tryz.sizeOf4
 v4:=Tryz.zeroValue4
 t5:=Tryz.underlying5
 a5:=Tryz.isAgg5
 z5:=Tryz.sizeOf5
 v5:=Tryz.zeroValue5
 t9:=Tryz.underlying9
 a9:=Tryz.isAgg9
 z9:=Tryz.sizeOf9
 v9:=Tryz.zeroValue9
 t22:=Tryz.underlying47
 a22:=Tryz.isAgg47
 z22:=Tryz.sizeOf47
 v22:=Tryz.zeroValue47
 t25:=Tryz.underlying112
 a25:=Tryz.isAgg112
 z25:=Tryz.sizeOf112
 v25:=Tryz.zeroValue112
 t39:=Tryz.underlying168
 a39:=Tryz.isAgg168
 z39:=Tryz.sizeOf168
 v39:=Tryz.zeroValue168
 t45:=Tryz.underlying195
 a45:=Tryz.isAgg195
 z45:=Tryz.sizeOf195
 v45:=Tryz.zeroValue195
 t46:=Tryz.underlying196
 a46:=Tryz.isAgg196
 z46:=Tryz.sizeOf196
 v46:=Tryz.zeroValue196
 t50:=Tryz.underlying200
 a50:=Tryz.isAgg200
 z50:=Tryz.sizeOf200
 v50:=Tryz.zeroValue200
 t53:=Tryz.underlying178
 a53:=Tryz.isAgg178
 z53:=Tryz.sizeOf178
 v53:=Tryz.zeroValue178
 t55:=Tryz.underlying204
 a55:=Tryz.isAgg204
 z55:=Tryz.sizeOf204
 v55:=Tryz.zeroValue204
 t66:=Tryz.underlying240
 a66:=Tryz.isAgg240
 z66:=Tryz.sizeOf240
 v66:=Tryz.zeroValue240
 t70:=Tryz.underlying244
 a70:=Tryz.isAgg244
 z70:=Tryz.sizeOf244
 v70:=Tryz.zeroValue244
 t76:=Tryz.underlying262
 a76:=Tryz.isAgg262
 z76:=Tryz.sizeOf262
 v76:=Tryz.zeroValue262
 t77:=Tryz.underlying171
 a77:=Tryz.isAgg171
 z77:=Tryz.sizeOf171
 v77:=Tryz.zeroValue171 }
end Go.Dw
