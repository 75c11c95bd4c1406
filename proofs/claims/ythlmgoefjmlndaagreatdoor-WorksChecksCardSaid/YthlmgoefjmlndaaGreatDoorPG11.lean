/- B1: contracts: the library's sorting of records and of strings, by functions that compare. -/
import Derived.Test.YthlmgoefjmlndaaGreatDoorPG10
import Derived.Test.YthlmgoefjmlndaaGreatDoorPG2
set_option linter.unusedVariables false
set_option linter.unusedSimpArgs false
namespace Go.Dw
open Go Go.Dx Go.Proofs Go.Sort Go.RowKit Go.Lib
set_option maxRecDepth 100000
theorem ZHz {P:Program}{g:FuncId}{args:List Value}{v:Value}(hfa:ZBM args=true)(hfv:flat v=true)(hs:∀h,Sv P g args h (RetP fun r h'=>r=v/\Ext h h'))(W:World) :
  Calls P g args.toArray W fun e w'=>e=.returned v/\∃q os,w'=grow (W.drewN q) os:=by
 have hget:∀b,(⟨.e,0,0⟩:Heap).get b=none:=fun b=>by unfold Heap.get;exact ZPK b
 have hr:HR (fun _=>none) ⟨.e,0,0⟩ W.heap :=
  ⟨(fun b o h=>by rw[hget] at h;cases h),(fun b b' o o' bi bi' h=>by rw[hget] at h;cases h),(fun b bi h=>nomatch h),(fun g bi _ h=>nomatch h),Nat.le_refl _⟩
 have hnr:∀c,¬Rg (fun _=>none) (⟨.e,0,0⟩:Heap) c:=by
  rintro c ⟨b,o,bi,h1,_⟩;rw[hget] at h1;cases h1
 refine ((hs ⟨.e,0,0⟩).w (fun _=>none) W args.toArray hr (VRL.of_flat _ hfa)).mono ?_;rintro e w' ⟨r,hR,hP⟩
 cases r with
 | ret u h' =>
  obtain⟨rfl,-⟩:=hR;obtain⟨ι',v',rfl,hv,_,ha⟩:=hP;have e2:=hv.flat_eq hfv;subst e2;refine⟨rfl,w'.drawn-W.drawn,w'.heap.extract W.heap.size w'.heap.size,?_⟩;obtain⟨d1,d2⟩:=ha.dr rfl;have hsz:=ha.sz;have hb:∀k,k<W.heap.size->w'.heap[k]?=W.heap[k]?:=fun k hk=>ha.fr k hk (hnr k);have eo:=ha.os;have eu:=ha.out;obtain⟨heap',tape',drawn',os',output'⟩:=w';simp only at d1 d2 hsz hb eo eu;subst d1 eo eu;have eh:heap'=W.heap++heap'.extract W.heap.size heap'.size:=by
   apply Array.ext_getElem?;intro k
   by_cases hk:k<W.heap.size
   ·rw[Array.getElem?_append_left hk];exact hb k hk
   ·rw[Array.getElem?_append_right (by omega),Array.getElem?_extract]
    by_cases hk2:k<heap'.size
    ·rw[if_pos (by omega)];congr 1;omega
    ·rw[if_neg (by omega),Array.getElem?_eq_none (by omega)]
  have ed:W.drawn+(drawn'-W.drawn)=drawn':=by omega
  unfold grow World.drewN;simp only;rw[ed]
  congr 1
 | pan v h'=>exact hR.elim
 | no=>exact hR.elim
section
variable {α:Type} [Inhabited α]{enc:α->Value}{w:World}{blk n:Nat}{os:Array Obj}{c:Array Value}{el:TypeId}{d:Array α}
theorem ZIv (hb:w.heap[blk]?=some (.cells c el (0,0))):w.heap.size<=(grow (putRow enc (Sort.ahead w n) blk 0 d) os).heap.size/\∀k,k<w.heap.size->(grow (putRow enc (Sort.ahead w n) blk 0 d) os).heap[k]?=(w.heap.setIfInBounds blk (.cells (putCells enc 0 d c) el (0,0)))[k]?:=by
 refine⟨by simp,fun k hk=>?_⟩;rw[heap_grow_old _ _ (by simpa using hk)];obtain⟨h1,h2⟩:=Array.getElem?_eq_some_iff.1 hb;rw[Array.getElem?_setIfInBounds]
 by_cases e:blk=k
 ·subst e
  rw[if_pos rfl,if_pos hk];simp[putRow,mapBlock,Sort.ahead,Array.getElem?_modify,onCells,hb]
 ·rw[if_neg e]
  simp[putRow,mapBlock,Sort.ahead,Array.getElem?_modify,e]
theorem ZEv:(putCells enc 0 d c).size=c.size:=by simp[putCells]
theorem ZEl (h:d.size<=c.size):(putCells enc 0 d c).toList.take d.size=d.toList.map enc:=by
 apply List.ext_getElem?;intro j
 by_cases hj:j<d.size
 ·rw[List.getElem?_take_of_lt hj,Array.getElem?_toList]
  simp[putCells,hj,show j<c.size by omega,getElem!_pos d j hj]
 ·rw[List.getElem?_take_eq_none (by omega),List.getElem?_eq_none (by simp;omega)]
theorem ZIK (hb:w.heap[blk]?=some (.cells c el (0,0)))(ht:c.toList.take d.size=d.toList.map enc):Holds enc w blk 0 d:=by
 intro j hj;refine⟨?_,by simp[World.frozen?,hb]⟩;have h1:(c.toList.take d.size)[j]?=(d.toList.map enc)[j]?:=by rw[ht]
 rw[List.getElem?_take_of_lt hj] at h1;simp only[World.cell?,hb,Nat.zero_add];simp only[Option.isSome_none,Bool.false_eq_true,if_false];rw[<-Array.getElem?_toList,h1];simp[hj,getElem!_pos d j hj]
end
def ZCT {α:Type}(lt:α->α->Prop) [DecidableRel lt](l:List α):List α:=l.mergeSort fun x y=>!decide (lt y x)
theorem ZEk {α:Type}{lt:α->α->Prop} [DecidableRel lt](l:List α):(ZCT lt l).length=l.length:=List.length_mergeSort ..
theorem ZKT {α:Type}{lt:α->α->Prop} [DecidableRel lt](hS:ZBE lt):SWO (ltOf (cmpI lt)):=by
 have e:∀x y,ltOf (cmpI lt) x y=decide (lt x y):=fun x y=>decide_eq_decide.2 ZIR;refine⟨fun x=>?_,fun x y z h1 h2=>?_,fun x y z h1 h2=>?_⟩
 ·rw[e];exact decide_eq_false (hS.irr x)
 ·rw[e] at h1 h2 ⊢
  exact decide_eq_true (hS.tr (of_decide_eq_true h1) (of_decide_eq_true h2))
 ·rw[e] at h1 h2 ⊢
  have k1:=of_decide_eq_false h1;have k2:=of_decide_eq_false h2;refine decide_eq_false fun h=>?_
  rcases hS.tri x y with g|g|g
  ·exact k1 g
  ·subst g;exact k2 h
  ·exact k2 (hS.tr g h)
theorem ZKK {α:Type}{lt:α->α->Prop} [DecidableRel lt](hS:ZBE lt)(x y:α)(h1:(ltOf (cmpI lt)) x y=false)(h2:(ltOf (cmpI lt)) y x=false):x=y:=by
 have e:∀x y,ltOf (cmpI lt) x y=decide (lt x y):=fun x y=>decide_eq_decide.2 ZIR;rw[e] at h1 h2
 rcases hS.tri x y with g|g|g
 ·exact absurd g (of_decide_eq_false h1)
 ·exact g
 ·exact absurd g (of_decide_eq_false h2)
theorem ZI3 {α:Type}{lt:α->α->Prop} [DecidableRel lt](l:List α):(l.mergeSort fun x y=>!(ltOf (cmpI lt)) y x)=ZCT lt l:=by
 unfold ZCT
 congr 1
 funext x y
 congr 1
 exact decide_eq_decide.2 ZIR
theorem ZHj {α:Type} [Inhabited α]{enc:α->List Value}{k:Nat}(hk0:0<k)(hk:∀x,(enc x).length=k)(d:Array α):(flatK enc k d).toList=d.toList.flatMap enc:=by
 have hlen:∀l:List α,(l.flatMap enc).length=l.length*k:=by
  intro l
  induction l with
  | nil=>simp
  | cons x l ih=>rw[List.flatMap_cons,List.length_append,ih,hk,List.length_cons,Nat.succ_mul];omega
 apply List.ext_getElem?;intro t
 by_cases ht:t<d.size*k
 ·have hi:t / k<d.toList.length:=by rw[Array.length_toList];exact (Nat.div_lt_iff_lt_mul hk0).2 ht
  have h1:=ZBV (f:=enc) (k:=k) (P:=d.toList) hi fun x _=>hk x;have hmod:=Nat.mod_lt t hk0;have hdm:t / k*k+t % k=t:=by rw[Nat.mul_comm];exact Nat.div_add_mod t k
  have hle:t / k*k+k<=d.size*k:=by
   have:(t / k+1)*k<=d.size*k:=Nat.mul_le_mul_right _ (by rw[Array.length_toList] at hi;exact hi);rw[Nat.add_mul,Nat.one_mul] at this;exact this
  rw[ZCo (by rw[hlen,Array.length_toList];exact hle)] at h1;have h2:((List.drop (t / k*k) (d.toList.flatMap enc)).take k)[t % k]?=(enc d.toList[t / k])[t % k]?:=congrArg (fun l:List Value=>l[t % k]?) (Option.some.inj h1);rw[List.getElem?_take_of_lt hmod,List.getElem?_drop,hdm] at h2;rw[h2,Array.getElem?_toList,Array.getElem?_eq_getElem (by simpa using ht)];have h3:=get_flatK enc k d t ht;rw[getElem!_pos _ t (by simpa using ht)] at h3;rw[h3,getElem!_pos d (t / k) (by rw[Array.length_toList] at hi;exact hi),Array.getElem_toList,List.getElem?_eq_getElem (by rw[hk];exact hmod),getElem!_pos _ _ (by rw[hk];exact hmod)]
 ·rw[List.getElem?_eq_none (by simp;omega),List.getElem?_eq_none (by rw[hlen,Array.length_toList];omega)]
instance:Inhabited WkR:=⟨⟨[],0,0,0,[],[]⟩⟩
theorem ZJn {α:Type}{lt:α->α->Prop} [DecidableRel lt]:ZCT lt ([]:List α)=[]:=List.mergeSort_nil
theorem ZCO (l:List WkR):(l.flatMap rowW).length=l.length*6:=by
 induction l with
 | nil=>rfl
 | cons x l ih=>rw[List.flatMap_cons,List.length_append,ih];show 6+l.length*6=(l.length+1)*6;omega
theorem ZFN:∀l:List WkR,ZBM (l.flatMap rowW)=true
 | []=>rfl
 | x::l=>by
  rw[List.flatMap_cons]
  show ZBM (str x.archive::i64 x.number::i64 x.day::i64 x.kind::str x.a::str x.b::l.flatMap rowW)=true
  simp only[ZBM,flat,Bool.true_and];exact ZFN l
theorem ZRG (x y:WkR)(W:World):Calls Tryz.prog 88 #[.agg (rowW x).toArray,.agg (rowW y).toArray] W fun e w'=>e=.returned (.int .i64 (cmpI ltW x y))/\∃q os',w'=grow (W.drewN q) os' :=
 ZHz (args:=[.agg ⟨rowW x⟩,.agg ⟨rowW y⟩]) rfl rfl (fun h=>ZMn x y h) W
theorem ZQ9 (x y:List UInt8)(W:World):Calls Tryz.prog 85 #[encStr x,encStr y] W fun e w'=>e=.returned (.int .i64 (cmpI ltB x y))/\∃q os',w'=grow (W.drewN q) os' :=
 ZHz (args:=[str x,str y]) rfl rfl (fun h=>(ZEh x y h).grows) W
theorem ZLM {h0 h:Heap}{v:Value}{P:List WkR}(hF:ZAB h0 h v 44 6 (P.flatMap rowW) P.length)(hn:P.length<1000000) :
  Sv Tryz.prog 133 [v,.func (.func 88) ⟨[]⟩ ⟨[]⟩] h (RetP fun r h'=>r=.tuple ⟨[]⟩/\ZAB h0 h' v 44 6 ((ZCT ltW P).flatMap rowW) P.length/\Exb (fun c=>ZA1 v=some c) h h'):=by
 refine⟨fun ι w args' hr hv=>?_⟩;obtain⟨l',rfl,hv⟩:=hv.arr
 cases hv with
 | cons hv1 hv2 =>
  cases hv2 with
  | cons hv3 hv4 =>
   cases hv4;have e3:=hv3.flat_eq rfl;subst e3
   rcases hF.lies hr hv1 (by decide) with ⟨rfl,rfl,hz,hn0⟩|⟨b,bi,op,cap,c,hb,hg,hi,rfl,hc,hle,hV,hl,hnew⟩
   ·have:P=[]:=List.eq_nil_of_length_eq_zero hn0
    subst this;refine (AnyF.slices_SortFunc_none ZML none 0 _ w).mono ?_;rintro e w' ⟨rfl,rfl⟩;exact⟨.ret (.tuple ⟨[]⟩) h,⟨rfl,by rw[ZJn];exact ZAB.nil _ _ _ _,Exb.refl _ _⟩,ZDj hr (VR.of_flat ι rfl) ⟨⟨Nat.le_refl _,fun _ _=>rfl,rfl,rfl⟩,rfl,Nat.le_refl _⟩⟩
   ·have hcz:=hV.flat_eq (ZFN P)
    rw[ZCO] at hle hcz;have hfl:(flatK rowW 6 P.toArray).toList=c.toList.take (P.length*6):=by rw[ZHj (enc:=rowW) (k:=6) (by decide) (fun _=>rfl),hcz]
    have hH:HoldsK rowW 6 w bi.blk 0 P.toArray:=ZIK (enc:=id) hc (by rw[size_flatK,List.size_toArray,hfl,List.map_id]);obtain⟨hbs,-⟩:=Array.getElem?_eq_some_iff.1 hc
    have hK:=AnyQ.slices_SortFunc_total ZML 6 Tryz.isAgg44 Tryz.sizeOf44 rowW (fun _=>rfl) (fun x v hv=>by
     simp only[rowW,List.mem_cons,List.not_mem_nil,or_false] at hv
     rcases hv with rfl|rfl|rfl|rfl|rfl|rfl <;> rfl) (cmpI ltW) (ZKT ZAw) 88 #[] bi.blk 0 cap P.toArray w (enters_of Tryz.func88 (by kernel_rfl) rfl) (fun _ _ _ _ x y=>ZRG x y _) hH hbs (by simp;omega) (ZKK ZAw)
    rw[List.size_toArray] at hK;refine hK.mono ?_;rintro e w' ⟨rfl,k,os,rfl⟩;have es:(P.toArray.toList.mergeSort fun x y=>!(ltOf (cmpI ltW)) y x)=ZCT ltW P:=ZI3 P;rw[es];have hsl:=ZEk (lt:=ltW) P;have hfs:(flatK rowW 6 (ZCT ltW P).toArray).size=P.length*6:=by rw[size_flatK,List.size_toArray,hsl]
    have hP:=ZJ7 (h:=h) (vs2:=(ZCT ltW P).flatMap rowW) (c2:=putCells id 0 (flatK rowW 6 (ZCT ltW P).toArray) c) (r:=.tuple ⟨[]⟩) (r':=.tuple ⟨[]⟩) hr hg hi hc ZEv (by rw[ZCO,ZCO,hsl]) (by
     have:=ZEl (enc:=id) (d:=flatK rowW 6 (ZCT ltW P).toArray) (c:=c) (by rw[hfs];exact hle);rw[hfs,List.map_id,ZHj (enc:=rowW) (k:=6) (by decide) (fun _=>rfl)] at this;rw[ZCO,hsl,this];exact VRL.of_flat ι (ZFN _)) (VR.of_flat ι rfl) (ZIv (enc:=id) (d:=flatK rowW 6 (ZCT ltW P).toArray) (n:=k) (os:=os) hc).1 (ZIv hc).2 rfl rfl
    refine⟨.ret (.tuple ⟨[]⟩) (h.set b (.cells ((ZCT ltW P).flatMap rowW) 44 op)),⟨rfl,hnew _ _ op (by rw[ZCO,ZCO,hsl]) (Upd.mk' h b _).at',?_⟩,hP⟩;refine (Exb.ofUpd (Upd.mk' h b _)).mono fun x hx=>by rw[hx];exact hb
theorem ZEV:∀l:List (List UInt8),ZBM (l.map str)=true
 | []=>rfl
 | _::l=>ZEV l
theorem ZJa {ι:Iota}{h0 h:Heap}{w w':World}{v:Value}{zs:List (List UInt8)}{b n k:Nat}{os:Array Obj}{bi:BI}{op:Bool}{c:Array Value}(S:List (List UInt8))(hsl:S.length=zs.length)(hr:HR ι h w.heap)
  (hb:ZA1 v=some b) (hg:h.get b=some (.cells (zs.map str) 9 op)) (hi:ι b=some bi) (hc:w.heap[bi.blk]?=some (.cells c 9 (0,0))) (hle:zs.length<=c.size)
  (hnew:∀(h':Heap) (cs':List Value) (op':Bool),cs'.length=(zs.map str).length->h'.get b=some (.cells cs' 9 op')->ZAB h0 h' v 9 1 cs' n) (hw:w'=grow (putRow encStr (Sort.ahead w k) bi.blk 0 S.toArray) os) :
  ∃r,(∃h',r=.ret (.tuple ⟨[]⟩) h'/\ZAB h0 h' v 9 1 (S.map str) n/\Exb (fun c=>ZA1 v=some c) h h')/\ZDS ι h w r (.returned (.tuple #[])) w':=by
 subst hw;have hts:S.toArray.size<=c.size:=by simp[hsl];omega
 have hP:=ZJ7 (h:=h) (vs2:=S.map str) (c2:=putCells encStr 0 S.toArray c) (r:=.tuple ⟨[]⟩) (r':=.tuple ⟨[]⟩) hr hg hi hc ZEv (by simp[hsl]) (by
  have:=ZEl (enc:=encStr) hts;rw[List.length_map];simp only[List.size_toArray] at this;rw[this];exact VRL.of_flat ι (ZEV _)) (VR.of_flat ι rfl) (ZIv (n:=k) (os:=os) hc).1 (ZIv hc).2 rfl rfl
 refine⟨_,⟨_,rfl,hnew _ _ op (by simp[hsl]) (Upd.mk' h b _).at',?_⟩,hP⟩;refine (Exb.ofUpd (Upd.mk' h b _)).mono fun x hx=>by rw[hx];exact hb
theorem ZKC {h0 h:Heap}{v:Value}{zs:List (List UInt8)}{n:Nat}(hF:ZAB h0 h v 9 1 (zs.map str) n)(hn:n<1000000) :
  Sv Tryz.prog 157 [v,.func (.func 85) ⟨[]⟩ ⟨[]⟩] h (RetP fun r h'=>r=.tuple ⟨[]⟩/\ZAB h0 h' v 9 1 ((ZCT ltB zs).map str) n/\Exb (fun c=>ZA1 v=some c) h h'):=by
 refine⟨fun ι w args' hr hv=>?_⟩;obtain⟨l',rfl,hv⟩:=hv.arr
 cases hv with
 | cons hv1 hv2 =>
  cases hv2 with
  | cons hv3 hv4 =>
   cases hv4;have e3:=hv3.flat_eq rfl;subst e3
   rcases hF.lies hr hv1 (by decide) with ⟨rfl,rfl,hz,rfl⟩|⟨b,bi,op,cap,c,hb,hg,hi,rfl,hc,hle,hV,hl,hnew⟩
   ·have:zs=[]:=List.map_eq_nil_iff.1 hz
    subst this
    refine (AnyF.slices_SortFunc_none { ZL2 with } none 0 _ w).mono ?_
    rintro e w' ⟨rfl,rfl⟩;exact⟨.ret (.tuple ⟨[]⟩) h,⟨rfl,by rw[ZJn];exact ZAB.nil _ _ _ _,Exb.refl _ _⟩,ZDj hr (VR.of_flat ι rfl) ⟨⟨Nat.le_refl _,fun _ _=>rfl,rfl,rfl⟩,rfl,Nat.le_refl _⟩⟩
   ·have hlz:zs.length=n:=by rw[List.length_map] at hl;omega
    have hcz:=hV.flat_eq (ZEV zs);rw[List.length_map] at hcz hle;have hH:Holds encStr w bi.blk 0 zs.toArray:=ZIK (enc:=encStr) hc (by simpa using hcz);obtain⟨hbs,-⟩:=Array.getElem?_eq_some_iff.1 hc;have hK:=Any.slices_SortFunc_total ZL2 encStr (fun _=>rfl) (cmpI ltB) (ZKT ZAR) 85 #[] bi.blk 0 cap zs.toArray w (enters_of Tryz.func85 (by kernel_rfl) rfl) (fun _ _ _ _ x y=>ZQ9 x y _) hH hbs (by simp;omega) (ZKK ZAR);rw[List.size_toArray,hlz] at hK;refine hK.mono ?_;rintro e w' ⟨rfl,k,os,hw⟩;have es:(zs.toArray.toList.mergeSort fun x y=>!(ltOf (cmpI ltB)) y x)=ZCT ltB zs:=ZI3 zs;rw[es] at hw;obtain⟨r,⟨h',rfl,hp1,hp2⟩,hP⟩:=ZJa (ZCT ltB zs) (ZEk zs) hr hb hg hi hc hle hnew hw
    exact⟨.ret (.tuple ⟨[]⟩) h',⟨rfl,hp1,hp2⟩,hP⟩
theorem ZLi {h0 h:Heap}{v:Value}{zs:List (List UInt8)}{n:Nat}(hF:ZAB h0 h v 9 1 (zs.map str) n)(hn:n<1000000) :
  Sv Tryz.prog 64 [v] h (RetP fun r h'=>r=.tuple ⟨[]⟩/\ZAB h0 h' v 9 1 ((zs.mergeSort fun x y=>decide (x<=y)).map str) n/\Exb (fun c=>ZA1 v=some c) h h'):=by
 refine⟨fun ι w args' hr hv=>?_⟩;obtain⟨l',rfl,hv⟩:=hv.arr
 cases hv with
 | cons hv1 hv2 =>
  cases hv2
  rcases hF.lies hr hv1 (by decide) with ⟨rfl,rfl,hz,rfl⟩|⟨b,bi,op,cap,c,hb,hg,hi,rfl,hc,hle,hV,hl,hnew⟩
  ·have:zs=[]:=List.map_eq_nil_iff.1 hz
   subst this;refine (AnyM.slices_Sort_string_none ZMG none 0 w).mono ?_;rintro e w' ⟨rfl,rfl⟩;exact⟨.ret (.tuple ⟨[]⟩) h,⟨rfl,by rw[List.mergeSort_nil];exact ZAB.nil _ _ _ _,Exb.refl _ _⟩,ZDj hr (VR.of_flat ι rfl) ⟨⟨Nat.le_refl _,fun _ _=>rfl,rfl,rfl⟩,rfl,Nat.le_refl _⟩⟩
  ·have hlz:zs.length=n:=by rw[List.length_map] at hl;omega
   have hcz:=hV.flat_eq (ZEV zs);rw[List.length_map] at hcz hle;have hH:Holds encStr w bi.blk 0 zs.toArray:=ZIK (enc:=encStr) hc (by simpa using hcz);obtain⟨hbs,-⟩:=Array.getElem?_eq_some_iff.1 hc;have hK:=AnyM.slices_Sort_string ZMG bi.blk 0 cap zs w hH hbs (by omega);rw[hlz] at hK;refine hK.mono ?_;rintro e w' ⟨rfl,k,os,hw⟩;obtain⟨r,⟨h',rfl,hp1,hp2⟩,hP⟩:=ZJa (zs.mergeSort fun x y=>decide (x<=y)) (List.length_mergeSort ..) hr hb hg hi hc hle hnew hw;exact⟨.ret (.tuple ⟨[]⟩) h',⟨rfl,hp1,hp2⟩,hP⟩
end Go.Dw
namespace Go.Dw
open Go Go.Dx Go.Proofs Go.Sort
set_option maxRecDepth 100000
def SrcK {α:Type}(enc:α->List Value)(k:Nat)(h:Heap)(a:Option Addr)(l:List α):Prop:=ZA6 k (fun _ row x=>row=enc x) h a l/\(l=[]->a=none\/(∃b o,a=some ⟨b,o,some 0⟩)\/∃b o oa,a=some ⟨b,o,oa⟩/\ZAp h b o 0=some [])
theorem SrcK.ext {α:Type}{enc:α->List Value}{k:Nat}{h h':Heap}{a:Option Addr}{l:List α}(hl:SrcK enc k h a l)(he:Ext h h'):SrcK enc k h' a l :=
 ⟨ZA6.ext (fun hr _=>hr) hl.1 he,fun hn=>(hl.2 hn).imp id fun hx=>hx.imp id fun ⟨b,o,oa,h1,h2⟩=>⟨b,o,oa,h1,he.row h2⟩⟩
theorem ZBC {α:Type}{enc:α->List Value}{k:Nat}(hk:∀x,(enc x).length=k)(l:List α):(l.flatMap enc).length=l.length*k:=by
 induction l with
 | nil=>simp
 | cons x l ih=>rw[List.flatMap_cons,List.length_append,ih,hk,List.length_cons,Nat.succ_mul];omega
theorem ZGU {α:Type}{enc:α->List Value}{k:Nat}(hk:∀x,(enc x).length=k){l:List α}{i j:Nat}(hi:i<l.length)(hj:j<k):(l.flatMap enc)[i*k+j]?=(enc l[i])[j]?:=by
 have h1:=ZBV (f:=enc) (k:=k) (P:=l) hi fun x _=>hk x;have hle:i*k+k<=l.length*k:=by
  have:(i+1)*k<=l.length*k:=Nat.mul_le_mul_right _ hi;rw[Nat.add_mul,Nat.one_mul] at this;exact this
 rw[ZCo (by rw[ZBC hk];exact hle)] at h1;have h2:((List.drop (i*k) (l.flatMap enc)).take k)[j]?=(enc l[i])[j]?:=congrArg (fun l:List Value=>l[j]?) (Option.some.inj h1);rw[List.getElem?_take_of_lt hj,List.getElem?_drop] at h2;exact h2
theorem SrcK.row {α:Type}{enc:α->List Value}{k:Nat}(hk0:0<k)(hk:∀x,(enc x).length=k){h:Heap}{b o:Nat}{oa:Option Nat}{l:List α}(hl:ZA6 k (fun _ row x=>row=enc x) h (some ⟨b,o,oa⟩) l)(hne:0<l.length):ZAp h b o (l.length*k)=some (l.flatMap enc):=by
 have hfl:=ZBC hk l
 have:=ZFk (h:=h) (b:=b) (o:=o) (l:=l.flatMap enc) (by rw[hfl];exact Nat.mul_pos hne hk0) (fun t ht=>by
  rw[hfl] at ht;have hi:t / k<l.length:=(Nat.div_lt_iff_lt_mul hk0).2 ht;have hmod:=Nat.mod_lt t hk0;have hdm:t / k*k+t % k=t:=by rw[Nat.mul_comm];exact Nat.div_add_mod t k
  obtain⟨b',o',oa',e,row,hrow,hR⟩:=hl (t / k) hi;cases e;have hR':row=enc l[t / k]:=hR;subst hR';have hg:=ZGU hk hi hmod;rw[hdm] at hg;have hlt:t<(l.flatMap enc).length:=by rw[hfl];exact ht
  have:=ZAa (k:=t % k) (v:=(l.flatMap enc)[t]) hrow (by rw[ZAk,<-hg,List.getElem?_eq_getElem hlt]);rw[Nat.add_assoc,hdm] at this;exact this)
 rwa [hfl] at this
theorem SrcK.src {P:Program} {α:Type}{enc:α->List Value}{k:Nat}(hk0:0<k)(hk:∀x,(enc x).length=k){h:Heap}{a:Option Addr}{l:List α}{cap:Nat}{el tX:TypeId}{dd:TypeDesc}(hl:SrcK enc k h a l)(hX:P.underlying tX=some dd)(hni:∀k,dd≠.int k):asrc P el k tX (.slice a l.length cap) h=some (l.length,l.flatMap enc):=by
 cases l with
 | nil =>
  rcases hl.2 rfl with rfl|⟨b,o,rfl⟩|⟨b,o,oa,rfl,h2⟩
  ·unfold asrc
   rw[hX];cases dd <;> first|rfl|exact absurd rfl (hni _)
  ·unfold asrc
   rw[hX];cases dd <;> first|rfl|exact absurd rfl (hni _)
  ·exact ZA7 hX hni (by rw[List.length_nil,Nat.zero_mul];exact h2)
 | cons x l =>
  obtain⟨b,o,oa,rfl,_⟩:=hl.1 0 (by simp);exact ZA7 hX hni (SrcK.row hk0 hk hl.1 (by simp))
theorem ZAB.rowsAt {α:Type}{enc:α->List Value}{k:Nat}(hk:∀x,(enc x).length=k){h0 h:Heap}{v:Value}{el:TypeId}{l:List α}{n:Nat}(ho:ZAB h0 h v el k (l.flatMap enc) n)(hn:n=l.length):∃a,v=.slice a l.length l.length/\SrcK enc k h a l/\(a=none->l=[]):=by
 subst hn
 rcases ho with ⟨rfl,e,e2⟩|⟨b,sp,op,rfl,hg,hl,_,_⟩
 ·have:l=[]:=List.eq_nil_of_length_eq_zero e2
  subst this;exact⟨none,rfl,⟨fun i hi=>absurd hi (Nat.not_lt_zero _),fun _=>.inl rfl⟩,fun _=>rfl⟩
 ·refine⟨_,rfl,⟨fun i hi=>⟨b,0,sp,rfl,enc l[i],?_,rfl⟩,fun e=>.inr (.inr ⟨b,0,sp,rfl,?_⟩)⟩,fun e=>nomatch e⟩
  ·unfold ZAp
   rw[hg];simp only;rw[Nat.zero_add];exact ZBV hi fun x _=>hk x
  ·unfold ZAp
   rw[hg];simp only[cut]
   rfl
theorem ZJh {P:Program}{t el:TypeId}(hu:P.underlying t=some (.slice el))(n:Nat)(w:World):(Op.equalIn (n+1) t (.slice none 0 0) (.slice none 0 0)).run P w=.ok true w:=by
 simp only[Op.equalIn,Sem.run_bind,run_underlying hu,Result.andThen_ok,Sem.run_pure]
 rfl
section
variable {P:Program}{m:Mem}{h:Heap}{d:Option Tmp}{ty:TypeId}{pos:String}{af:Array Edge}{gu:Option (Nat×Bool)}{t tz el:TypeId}{x y:Operand}
theorem ZL4 (hu:P.underlying t=some (.slice el))(hx:opk h m x=some (.slice none 0 0))(hy:opk h m y=some (.slice none 0 0)):Aop P ⟨d,.binOp .eql t x y tz,ty,pos,af,gu⟩ m h (.bool true) h :=
 ZCd hx hy rfl rfl rfl fun w=>by
  have h2:(eqGuard .eql t x y (.slice none 0 0) (.slice none 0 0)).run P w=.ok () w:=rfl;simp only[Sem.run_bind,h2,Result.andThen_ok]
  show (do pure (.bool (<-Op.equalIn (9999+1) t (.slice none 0 0) (.slice none 0 0))):Sem Value).run P w=_
  simp only[Sem.run_bind,ZJh hu,Result.andThen_ok,Sem.run_pure]
theorem ZMI {a:Addr}{n c:Nat}(hu:P.underlying t=some (.slice el))(hx:opk h m x=some (.slice (some a) n c))(hy:opk h m y=some (.slice none 0 0)):Aop P ⟨d,.binOp .eql t x y tz,ty,pos,af,gu⟩ m h (.bool false) h :=
 ZAb fun e hs=>by
  show pBin P _ h e .eql t x y=_
  unfold pBin;simp only[ZAI hs hx,ZAI hs hy];have:ZFZ P .eql t (.slice (some a) n c) (.slice none 0 0)=some (.bool false):=by
   unfold ZFZ;rw[hu]
   rfl
  simp only[this]
end
theorem ZNt (l:List WkR):allOne (l.flatMap rowW)=true:=by
 induction l with
 | nil=>rfl
 | cons x l ih=>rw[List.flatMap_cons];exact ih
theorem ZPn (l:List (List UInt8)):allOne (l.map str)=true:=by
 unfold allOne;rw[List.all_map];exact List.all_eq_true.2 fun _ _=>rfl
theorem ZJW {a:Option Addr}{cap:Nat}{l:List WkR}{h:Heap}(hs:SrcK rowW 6 h a l)(hn:a=none->l=[]/\cap=0)(hlen:l.length<=1000000) :
  Sv Tryz.prog 132 [.slice a l.length cap] h (RetP fun v' h'=>ZAB h h' v' 44 6 (l.flatMap rowW) l.length/\Ext h h'):=by
 refine ZDa fun hw=>?_;refine ZAG Tryz.func132 rfl (by rw[Tryz.ntmps132];rfl) ?_;show Wc Tryz.prog ⟨132,8,none⟩ _ _ _ _ _;refine zy ?_
 cases a with
 | none =>
  obtain⟨rfl,rfl⟩:=hn rfl;refine ZAA rfl rfl rfl rfl (ZL4 Und.h rfl rfl) ?_;refine zy ?_;exact ZAC (ZAD rfl ⟨ZAB.nil _ _ _ _,Ext.refl _⟩)
 | some a =>
  refine ZAA rfl rfl rfl rfl (ZMI Und.h rfl rfl) ?_;refine zy ?_;refine ZB0 rfl rfl Und.h Tsz.h Zr.h rfl rfl rfl rfl rfl fun h1' hE1 hW1 hg1 hx1=>?_;refine zy ?_;refine ZFT (k:=l.length) (n:=0) (l:=l.flatMap rowW) hw hE1 rfl rfl rfl rfl rfl Und.h inferInstance rfl rfl (ZAB.lit (n:=0) (sz:=6) (cs:=[]) hg1 rfl (Nat.le_refl _)) (SrcK.src (enc:=rowW) (k:=6) (dd:=.slice 44) (by decide) (fun _=>rfl) (hs.ext hE1) Und.h (by intro k;simp)) (ZCO l) (ZNt l) (by omega) (by omega) fun v2 h2 hF2 hE2 _ _ _=>?_;refine zy ?_;refine ZAC (ZAD rfl ⟨?_,hE2⟩);rw[List.nil_append,Nat.zero_add] at hF2;exact hF2
theorem ZJo {a:Option Addr}{cap:Nat}{l:List (List UInt8)}{h:Heap}(hs:ZIE str h a l)(hn:a=none->l=[]/\cap=0)(hlen:l.length<=1000000) :
  Sv Tryz.prog 156 [.slice a l.length cap] h (RetP fun v' h'=>ZAB h h' v' 9 1 (l.map str) l.length/\Ext h h'):=by
 refine ZDa fun hw=>?_;refine ZAG Tryz.func156 rfl (by rw[Tryz.ntmps156];rfl) ?_;show Wc Tryz.prog ⟨156,8,none⟩ _ _ _ _ _;refine zy ?_
 cases a with
 | none =>
  obtain⟨rfl,rfl⟩:=hn rfl;refine ZAA rfl rfl rfl rfl (ZL4 Und.h rfl rfl) ?_;refine zy ?_;exact ZAC (ZAD rfl ⟨ZAB.nil _ _ _ _,Ext.refl _⟩)
 | some a =>
  refine ZAA rfl rfl rfl rfl (ZMI Und.h rfl rfl) ?_;refine zy ?_;refine ZB0 rfl rfl Und.h Tsz.h Zr.h rfl rfl rfl rfl rfl fun h1' hE1 hW1 hg1 hx1=>?_;refine zy ?_;refine ZFT (k:=l.length) (n:=0) (l:=l.map str) hw hE1 rfl rfl rfl rfl rfl Und.h inferInstance rfl rfl (ZAB.lit (n:=0) (sz:=1) (cs:=[]) hg1 rfl (Nat.le_refl _)) ((hs.ext hE1).src (dd:=.slice 9) Und.h (by intro k;simp)) (by rw[List.length_map];omega) (ZPn l) (by omega) (by omega) fun v2 h2 hF2 hE2 _ _ _=>?_;refine zy ?_;refine ZAC (ZAD rfl ⟨?_,hE2⟩);rw[List.nil_append,Nat.zero_add] at hF2;exact hF2
end Go.Dw
