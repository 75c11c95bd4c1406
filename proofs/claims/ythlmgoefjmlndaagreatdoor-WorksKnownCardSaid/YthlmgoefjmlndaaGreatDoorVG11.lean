/- B1: contracts: the library's sorting of records and of strings, by functions that compare. -/
import Derived.Test.YthlmgoefjmlndaaGreatDoorVG10
import Derived.Test.YthlmgoefjmlndaaGreatDoorVG2
import Derived.Test.YthlmgoefjmlndaaGreatDoorVG5
set_option linter.unusedVariables false
set_option linter.unusedSimpArgs false
namespace Go.Dw
open Go Go.Dx Go.Proofs Go.Sort Go.RowKit Go.Lib
set_option maxRecDepth 100000
theorem ZFo {P:Program}{g:FuncId}{args:List Value}{v:Value}(hfa:ZBM args=true)(hfv:flat v=true)(hs:∀h,Sv P g args h (RetP fun r h'=>r=v/\Ext h h'))(W:World) :
  Calls P g args.toArray W fun e w'=>e=.returned v/\∃q os,w'=grow (W.drewN q) os:=by
 have hget:∀b,(⟨.e,0,0⟩:Heap).get b=none:=fun b=>by unfold Heap.get;exact ZPS b
 have hr:HR (fun _=>none) ⟨.e,0,0⟩ W.heap :=
  ⟨(fun b o h=>by rw[hget] at h;cases h),(fun b b' o o' bi bi' h=>by rw[hget] at h;cases h),(fun b bi h=>nomatch h),(fun g bi _ h=>nomatch h),Nat.le_refl _⟩
 have hnr:∀c,¬Rg (fun _=>none) (⟨.e,0,0⟩:Heap) c:=by
  rintro c ⟨b,o,bi,h1,_⟩;rw[hget] at h1;cases h1
 refine ((hs ⟨.e,0,0⟩).w (fun _=>none) W args.toArray hr (VRL.of_flat _ hfa)).mono ?_;rintro e w' ⟨r,hR,hP⟩
 cases r with
 | ret u h' =>
  obtain⟨rfl,-⟩:=hR;obtain⟨ι',v',rfl,hv,_,ha⟩:=hP;have e2:=hv.flat_eq hfv;subst e2;refine⟨rfl,w'.drawn-W.drawn,w'.heap.extract W.heap.size w'.heap.size,?_⟩;obtain⟨d1,d2⟩:=ha.dr rfl;have hsz:=ha.sz;have hb:∀k,k<W.heap.size->w'.heap[k]?=W.heap[k]?:=fun k hk=>ha.fr k hk (hnr k);have eo:=ha.os;have eu:=ha.out;obtain⟨heap',tape',drawn',os',output'⟩:=w';simp only at d1 d2 hsz hb eo eu;subst d1 eo eu;have eh:heap'=W.heap++heap'.extract W.heap.size heap'.size:=by
   apply Array.ext_getElem?;intro k
   by_cases hk:k<W.heap.size
   ·rw[Array.getElem?_append_left hk];exact hb k hk
   ·rw[Array.getElem?_append_right (by omega),Array.getElem?_extract]
    by_cases hk2:k<heap'.size
    ·rw[if_pos (by omega)];congr 1;omega
    ·rw[if_neg (by omega),Array.getElem?_eq_none (by omega)]
  have ed:W.drawn+(drawn'-W.drawn)=drawn':=by omega
  unfold grow World.drewN;simp only;rw[ed]
  congr 1
 | pan v h'=>exact hR.elim
 | no=>exact hR.elim
section
variable {α:Type} [Inhabited α]{enc:α->Value}{w:World}{blk n:Nat}{os:Array Obj}{c:Array Value}{el:TypeId}{d:Array α}
theorem ZFy (hb:w.heap[blk]?=some (.cells c el (0,0))):w.heap.size<=(grow (putRow enc (Sort.ahead w n) blk 0 d) os).heap.size/\∀k,k<w.heap.size->(grow (putRow enc (Sort.ahead w n) blk 0 d) os).heap[k]?=(w.heap.setIfInBounds blk (.cells (putCells enc 0 d c) el (0,0)))[k]?:=by
 refine⟨by simp,fun k hk=>?_⟩;rw[heap_grow_old _ _ (by simpa using hk)];obtain⟨h1,h2⟩:=Array.getElem?_eq_some_iff.1 hb;rw[Array.getElem?_setIfInBounds]
 by_cases e:blk=k
 ·subst e
  rw[if_pos rfl,if_pos hk];simp[putRow,mapBlock,Sort.ahead,Array.getElem?_modify,onCells,hb]
 ·rw[if_neg e]
  simp[putRow,mapBlock,Sort.ahead,Array.getElem?_modify,e]
theorem ZDW:(putCells enc 0 d c).size=c.size:=by simp[putCells]
theorem ZDZ (h:d.size<=c.size):(putCells enc 0 d c).toList.take d.size=d.toList.map enc:=by
 apply List.ext_getElem?;intro j
 by_cases hj:j<d.size
 ·rw[List.getElem?_take_of_lt hj,Array.getElem?_toList]
  simp[putCells,hj,show j<c.size by omega,getElem!_pos d j hj]
 ·rw[List.getElem?_take_eq_none (by omega),List.getElem?_eq_none (by simp;omega)]
theorem ZGW (hb:w.heap[blk]?=some (.cells c el (0,0)))(ht:c.toList.take d.size=d.toList.map enc):Holds enc w blk 0 d:=by
 intro j hj;refine⟨?_,by simp[World.frozen?,hb]⟩;have h1:(c.toList.take d.size)[j]?=(d.toList.map enc)[j]?:=by rw[ht]
 rw[List.getElem?_take_of_lt hj] at h1;simp only[World.cell?,hb,Nat.zero_add];simp only[Option.isSome_none,Bool.false_eq_true,if_false];rw[<-Array.getElem?_toList,h1];simp[hj,getElem!_pos d j hj]
end
def ZCg {α:Type}(lt:α->α->Prop) [DecidableRel lt](l:List α):List α:=l.mergeSort fun x y=>!decide (lt y x)
theorem ZFH {α:Type}{lt:α->α->Prop} [DecidableRel lt](l:List α):(ZCg lt l).length=l.length:=List.length_mergeSort ..
theorem ZLt {α:Type}{lt:α->α->Prop} [DecidableRel lt](hS:ZBH lt):SWO (ltOf (cmpI lt)):=by
 have e:∀x y,ltOf (cmpI lt) x y=decide (lt x y):=fun x y=>decide_eq_decide.2 ZFz;refine⟨fun x=>?_,fun x y z h1 h2=>?_,fun x y z h1 h2=>?_⟩
 ·rw[e];exact decide_eq_false (hS.irr x)
 ·rw[e] at h1 h2 ⊢
  exact decide_eq_true (hS.tr (of_decide_eq_true h1) (of_decide_eq_true h2))
 ·rw[e] at h1 h2 ⊢
  have k1:=of_decide_eq_false h1;have k2:=of_decide_eq_false h2;refine decide_eq_false fun h=>?_
  rcases hS.tri x y with g|g|g
  ·exact k1 g
  ·subst g;exact k2 h
  ·exact k2 (hS.tr g h)
theorem ZJO {α:Type}{lt:α->α->Prop} [DecidableRel lt](hS:ZBH lt)(x y:α)(h1:(ltOf (cmpI lt)) x y=false)(h2:(ltOf (cmpI lt)) y x=false):x=y:=by
 have e:∀x y,ltOf (cmpI lt) x y=decide (lt x y):=fun x y=>decide_eq_decide.2 ZFz;rw[e] at h1 h2
 rcases hS.tri x y with g|g|g
 ·exact absurd g (of_decide_eq_false h1)
 ·exact g
 ·exact absurd g (of_decide_eq_false h2)
theorem ZJ4 {α:Type}{lt:α->α->Prop} [DecidableRel lt](l:List α):(l.mergeSort fun x y=>!(ltOf (cmpI lt)) y x)=ZCg lt l:=by
 unfold ZCg
 congr 1
 funext x y
 congr 1
 exact decide_eq_decide.2 ZFz
theorem ZD8 {α:Type} [Inhabited α]{enc:α->List Value}{k:Nat}(hk0:0<k)(hk:∀x,(enc x).length=k)(d:Array α):(flatK enc k d).toList=d.toList.flatMap enc:=by
 have hlen:∀l:List α,(l.flatMap enc).length=l.length*k:=by
  intro l
  induction l with
  | nil=>simp
  | cons x l ih=>rw[List.flatMap_cons,List.length_append,ih,hk,List.length_cons,Nat.succ_mul];omega
 apply List.ext_getElem?;intro t
 by_cases ht:t<d.size*k
 ·have hi:t / k<d.toList.length:=by rw[Array.length_toList];exact (Nat.div_lt_iff_lt_mul hk0).2 ht
  have h1:=ZBo (f:=enc) (k:=k) (P:=d.toList) hi fun x _=>hk x;have hmod:=Nat.mod_lt t hk0;have hdm:t / k*k+t % k=t:=by rw[Nat.mul_comm];exact Nat.div_add_mod t k
  have hle:t / k*k+k<=d.size*k:=by
   have:(t / k+1)*k<=d.size*k:=Nat.mul_le_mul_right _ (by rw[Array.length_toList] at hi;exact hi);rw[Nat.add_mul,Nat.one_mul] at this;exact this
  rw[ZCo (by rw[hlen,Array.length_toList];exact hle)] at h1;have h2:((List.drop (t / k*k) (d.toList.flatMap enc)).take k)[t % k]?=(enc d.toList[t / k])[t % k]?:=congrArg (fun l:List Value=>l[t % k]?) (Option.some.inj h1);rw[List.getElem?_take_of_lt hmod,List.getElem?_drop,hdm] at h2;rw[h2,Array.getElem?_toList,Array.getElem?_eq_getElem (by simpa using ht)];have h3:=get_flatK enc k d t ht;rw[getElem!_pos _ t (by simpa using ht)] at h3;rw[h3,getElem!_pos d (t / k) (by rw[Array.length_toList] at hi;exact hi),Array.getElem_toList,List.getElem?_eq_getElem (by rw[hk];exact hmod),getElem!_pos _ _ (by rw[hk];exact hmod)]
 ·rw[List.getElem?_eq_none (by simp;omega),List.getElem?_eq_none (by rw[hlen,Array.length_toList];omega)]
instance:Inhabited WkR:=⟨⟨[],0,0,0,[],[]⟩⟩
theorem ZKL {α:Type}{lt:α->α->Prop} [DecidableRel lt]:ZCg lt ([]:List α)=[]:=List.mergeSort_nil
theorem ZCZ (l:List WkR):(l.flatMap rowW).length=l.length*6:=by
 induction l with
 | nil=>rfl
 | cons x l ih=>rw[List.flatMap_cons,List.length_append,ih];show 6+l.length*6=(l.length+1)*6;omega
theorem ZFb:∀l:List WkR,ZBM (l.flatMap rowW)=true
 | []=>rfl
 | x::l=>by
  rw[List.flatMap_cons]
  show ZBM (str x.archive::i64 x.number::i64 x.day::i64 x.kind::str x.a::str x.b::l.flatMap rowW)=true
  simp only[ZBM,flat,Bool.true_and];exact ZFb l
theorem ZRp (x y:WkR)(W:World):Calls Tryz.prog 88 #[.agg (rowW x).toArray,.agg (rowW y).toArray] W fun e w'=>e=.returned (.int .i64 (cmpI ltW x y))/\∃q os',w'=grow (W.drewN q) os' :=
 ZFo (args:=[.agg ⟨rowW x⟩,.agg ⟨rowW y⟩]) rfl rfl (fun h=>ZM2 x y h) W
theorem ZR1 (x y:List UInt8)(W:World):Calls Tryz.prog 85 #[encStr x,encStr y] W fun e w'=>e=.returned (.int .i64 (cmpI ltB x y))/\∃q os',w'=grow (W.drewN q) os' :=
 ZFo (args:=[str x,str y]) rfl rfl (fun h=>(ZDs x y h).grows) W
theorem ZKl {h0 h:Heap}{v:Value}{P:List WkR}(hF:ZAA h0 h v 44 6 (P.flatMap rowW) P.length)(hn:P.length<1000000) :
  Sv Tryz.prog 133 [v,.func (.func 88) ⟨[]⟩ ⟨[]⟩] h (RetP fun r h'=>r=.tuple ⟨[]⟩/\ZAA h0 h' v 44 6 ((ZCg ltW P).flatMap rowW) P.length/\Exb (fun c=>ZA4 v=some c) h h'):=by
 refine⟨fun ι w args' hr hv=>?_⟩;obtain⟨l',rfl,hv⟩:=hv.arr
 cases hv with
 | cons hv1 hv2 =>
  cases hv2 with
  | cons hv3 hv4 =>
   cases hv4;have e3:=hv3.flat_eq rfl;subst e3
   rcases hF.lies hr hv1 (by decide) with ⟨rfl,rfl,hz,hn0⟩|⟨b,bi,op,cap,c,hb,hg,hi,rfl,hc,hle,hV,hl,hnew⟩
   ·have:P=[]:=List.eq_nil_of_length_eq_zero hn0
    subst this;refine (AnyF.slices_SortFunc_none ZMf none 0 _ w).mono ?_;rintro e w' ⟨rfl,rfl⟩;exact⟨.ret (.tuple ⟨[]⟩) h,⟨rfl,by rw[ZKL];exact ZAA.nil _ _ _ _,Exb.refl _ _⟩,ZC4 hr (VR.of_flat ι rfl) ⟨⟨Nat.le_refl _,fun _ _=>rfl,rfl,rfl⟩,rfl,Nat.le_refl _⟩⟩
   ·have hcz:=hV.flat_eq (ZFb P)
    rw[ZCZ] at hle hcz;have hfl:(flatK rowW 6 P.toArray).toList=c.toList.take (P.length*6):=by rw[ZD8 (enc:=rowW) (k:=6) (by decide) (fun _=>rfl),hcz]
    have hH:HoldsK rowW 6 w bi.blk 0 P.toArray:=ZGW (enc:=id) hc (by rw[size_flatK,List.size_toArray,hfl,List.map_id]);obtain⟨hbs,-⟩:=Array.getElem?_eq_some_iff.1 hc
    have hK:=AnyQ.slices_SortFunc_total ZMf 6 Tryz.isAgg44 Tryz.sizeOf44 rowW (fun _=>rfl) (fun x v hv=>by
     simp only[rowW,List.mem_cons,List.not_mem_nil,or_false] at hv
     rcases hv with rfl|rfl|rfl|rfl|rfl|rfl <;> rfl) (cmpI ltW) (ZLt ZAx) 88 #[] bi.blk 0 cap P.toArray w (enters_of Tryz.func88 (by kernel_rfl) rfl) (fun _ _ _ _ x y=>ZRp x y _) hH hbs (by simp;omega) (ZJO ZAx)
    rw[List.size_toArray] at hK;refine hK.mono ?_;rintro e w' ⟨rfl,k,os,rfl⟩;have es:(P.toArray.toList.mergeSort fun x y=>!(ltOf (cmpI ltW)) y x)=ZCg ltW P:=ZJ4 P;rw[es];have hsl:=ZFH (lt:=ltW) P;have hfs:(flatK rowW 6 (ZCg ltW P).toArray).size=P.length*6:=by rw[size_flatK,List.size_toArray,hsl]
    have hP:=ZG3 (h:=h) (vs2:=(ZCg ltW P).flatMap rowW) (c2:=putCells id 0 (flatK rowW 6 (ZCg ltW P).toArray) c) (r:=.tuple ⟨[]⟩) (r':=.tuple ⟨[]⟩) hr hg hi hc ZDW (by rw[ZCZ,ZCZ,hsl]) (by
     have:=ZDZ (enc:=id) (d:=flatK rowW 6 (ZCg ltW P).toArray) (c:=c) (by rw[hfs];exact hle);rw[hfs,List.map_id,ZD8 (enc:=rowW) (k:=6) (by decide) (fun _=>rfl)] at this;rw[ZCZ,hsl,this];exact VRL.of_flat ι (ZFb _)) (VR.of_flat ι rfl) (ZFy (enc:=id) (d:=flatK rowW 6 (ZCg ltW P).toArray) (n:=k) (os:=os) hc).1 (ZFy hc).2 rfl rfl
    refine⟨.ret (.tuple ⟨[]⟩) (h.set b (.cells ((ZCg ltW P).flatMap rowW) 44 op)),⟨rfl,hnew _ _ op (by rw[ZCZ,ZCZ,hsl]) (Upd.mk' h b _).at',?_⟩,hP⟩;refine (Exb.ofUpd (Upd.mk' h b _)).mono fun x hx=>by rw[hx];exact hb
theorem ZE9:∀l:List (List UInt8),ZBM (l.map str)=true
 | []=>rfl
 | _::l=>ZE9 l
theorem ZJc {ι:Iota}{h0 h:Heap}{w w':World}{v:Value}{zs:List (List UInt8)}{b n k:Nat}{os:Array Obj}{bi:BI}{op:Bool}{c:Array Value}(S:List (List UInt8))(hsl:S.length=zs.length)(hr:HR ι h w.heap)
  (hb:ZA4 v=some b) (hg:h.get b=some (.cells (zs.map str) 9 op)) (hi:ι b=some bi) (hc:w.heap[bi.blk]?=some (.cells c 9 (0,0))) (hle:zs.length<=c.size)
  (hnew:∀(h':Heap) (cs':List Value) (op':Bool),cs'.length=(zs.map str).length->h'.get b=some (.cells cs' 9 op')->ZAA h0 h' v 9 1 cs' n) (hw:w'=grow (putRow encStr (Sort.ahead w k) bi.blk 0 S.toArray) os) :
  ∃r,(∃h',r=.ret (.tuple ⟨[]⟩) h'/\ZAA h0 h' v 9 1 (S.map str) n/\Exb (fun c=>ZA4 v=some c) h h')/\ZDv ι h w r (.returned (.tuple #[])) w':=by
 subst hw;have hts:S.toArray.size<=c.size:=by simp[hsl];omega
 have hP:=ZG3 (h:=h) (vs2:=S.map str) (c2:=putCells encStr 0 S.toArray c) (r:=.tuple ⟨[]⟩) (r':=.tuple ⟨[]⟩) hr hg hi hc ZDW (by simp[hsl]) (by
  have:=ZDZ (enc:=encStr) hts;rw[List.length_map];simp only[List.size_toArray] at this;rw[this];exact VRL.of_flat ι (ZE9 _)) (VR.of_flat ι rfl) (ZFy (n:=k) (os:=os) hc).1 (ZFy hc).2 rfl rfl
 refine⟨_,⟨_,rfl,hnew _ _ op (by simp[hsl]) (Upd.mk' h b _).at',?_⟩,hP⟩;refine (Exb.ofUpd (Upd.mk' h b _)).mono fun x hx=>by rw[hx];exact hb
theorem ZJz {h0 h:Heap}{v:Value}{zs:List (List UInt8)}{n:Nat}(hF:ZAA h0 h v 9 1 (zs.map str) n)(hn:n<1000000) :
  Sv Tryz.prog 157 [v,.func (.func 85) ⟨[]⟩ ⟨[]⟩] h (RetP fun r h'=>r=.tuple ⟨[]⟩/\ZAA h0 h' v 9 1 ((ZCg ltB zs).map str) n/\Exb (fun c=>ZA4 v=some c) h h'):=by
 refine⟨fun ι w args' hr hv=>?_⟩;obtain⟨l',rfl,hv⟩:=hv.arr
 cases hv with
 | cons hv1 hv2 =>
  cases hv2 with
  | cons hv3 hv4 =>
   cases hv4;have e3:=hv3.flat_eq rfl;subst e3
   rcases hF.lies hr hv1 (by decide) with ⟨rfl,rfl,hz,rfl⟩|⟨b,bi,op,cap,c,hb,hg,hi,rfl,hc,hle,hV,hl,hnew⟩
   ·have:zs=[]:=List.map_eq_nil_iff.1 hz
    subst this
    refine (AnyF.slices_SortFunc_none { ZMV with } none 0 _ w).mono ?_
    rintro e w' ⟨rfl,rfl⟩;exact⟨.ret (.tuple ⟨[]⟩) h,⟨rfl,by rw[ZKL];exact ZAA.nil _ _ _ _,Exb.refl _ _⟩,ZC4 hr (VR.of_flat ι rfl) ⟨⟨Nat.le_refl _,fun _ _=>rfl,rfl,rfl⟩,rfl,Nat.le_refl _⟩⟩
   ·have hlz:zs.length=n:=by rw[List.length_map] at hl;omega
    have hcz:=hV.flat_eq (ZE9 zs);rw[List.length_map] at hcz hle;have hH:Holds encStr w bi.blk 0 zs.toArray:=ZGW (enc:=encStr) hc (by simpa using hcz);obtain⟨hbs,-⟩:=Array.getElem?_eq_some_iff.1 hc;have hK:=Any.slices_SortFunc_total ZMV encStr (fun _=>rfl) (cmpI ltB) (ZLt ZAK) 85 #[] bi.blk 0 cap zs.toArray w (enters_of Tryz.func85 (by kernel_rfl) rfl) (fun _ _ _ _ x y=>ZR1 x y _) hH hbs (by simp;omega) (ZJO ZAK);rw[List.size_toArray,hlz] at hK;refine hK.mono ?_;rintro e w' ⟨rfl,k,os,hw⟩;have es:(zs.toArray.toList.mergeSort fun x y=>!(ltOf (cmpI ltB)) y x)=ZCg ltB zs:=ZJ4 zs;rw[es] at hw;obtain⟨r,⟨h',rfl,hp1,hp2⟩,hP⟩:=ZJc (ZCg ltB zs) (ZFH zs) hr hb hg hi hc hle hnew hw
    exact⟨.ret (.tuple ⟨[]⟩) h',⟨rfl,hp1,hp2⟩,hP⟩
theorem ZHI {h0 h:Heap}{v:Value}{zs:List (List UInt8)}{n:Nat}(hF:ZAA h0 h v 9 1 (zs.map str) n)(hn:n<1000000) :
  Sv Tryz.prog 64 [v] h (RetP fun r h'=>r=.tuple ⟨[]⟩/\ZAA h0 h' v 9 1 ((zs.mergeSort fun x y=>decide (x<=y)).map str) n/\Exb (fun c=>ZA4 v=some c) h h'):=by
 refine⟨fun ι w args' hr hv=>?_⟩;obtain⟨l',rfl,hv⟩:=hv.arr
 cases hv with
 | cons hv1 hv2 =>
  cases hv2
  rcases hF.lies hr hv1 (by decide) with ⟨rfl,rfl,hz,rfl⟩|⟨b,bi,op,cap,c,hb,hg,hi,rfl,hc,hle,hV,hl,hnew⟩
  ·have:zs=[]:=List.map_eq_nil_iff.1 hz
   subst this;refine (AnyM.slices_Sort_string_none ZMQ none 0 w).mono ?_;rintro e w' ⟨rfl,rfl⟩;exact⟨.ret (.tuple ⟨[]⟩) h,⟨rfl,by rw[List.mergeSort_nil];exact ZAA.nil _ _ _ _,Exb.refl _ _⟩,ZC4 hr (VR.of_flat ι rfl) ⟨⟨Nat.le_refl _,fun _ _=>rfl,rfl,rfl⟩,rfl,Nat.le_refl _⟩⟩
  ·have hlz:zs.length=n:=by rw[List.length_map] at hl;omega
   have hcz:=hV.flat_eq (ZE9 zs);rw[List.length_map] at hcz hle;have hH:Holds encStr w bi.blk 0 zs.toArray:=ZGW (enc:=encStr) hc (by simpa using hcz);obtain⟨hbs,-⟩:=Array.getElem?_eq_some_iff.1 hc;have hK:=AnyM.slices_Sort_string ZMQ bi.blk 0 cap zs w hH hbs (by omega);rw[hlz] at hK;refine hK.mono ?_;rintro e w' ⟨rfl,k,os,hw⟩;obtain⟨r,⟨h',rfl,hp1,hp2⟩,hP⟩:=ZJc (zs.mergeSort fun x y=>decide (x<=y)) (List.length_mergeSort ..) hr hb hg hi hc hle hnew hw;exact⟨.ret (.tuple ⟨[]⟩) h',⟨rfl,hp1,hp2⟩,hP⟩
end Go.Dw
namespace Go.Dw
open Go Go.Dx Go.Proofs Go.Sort
set_option maxRecDepth 100000
def SrcK {α:Type}(enc:α->List Value)(k:Nat)(h:Heap)(a:Option Addr)(l:List α):Prop:=ZAh k (fun _ row x=>row=enc x) h a l/\(l=[]->a=none\/(∃b o,a=some ⟨b,o,some 0⟩)\/∃b o oa,a=some ⟨b,o,oa⟩/\ZAn h b o 0=some [])
theorem SrcK.ext {α:Type}{enc:α->List Value}{k:Nat}{h h':Heap}{a:Option Addr}{l:List α}(hl:SrcK enc k h a l)(he:Ext h h'):SrcK enc k h' a l :=
 ⟨ZAh.ext (fun hr _=>hr) hl.1 he,fun hn=>(hl.2 hn).imp id fun hx=>hx.imp id fun ⟨b,o,oa,h1,h2⟩=>⟨b,o,oa,h1,he.row h2⟩⟩
theorem ZBC {α:Type}{enc:α->List Value}{k:Nat}(hk:∀x,(enc x).length=k)(l:List α):(l.flatMap enc).length=l.length*k:=by
 induction l with
 | nil=>simp
 | cons x l ih=>rw[List.flatMap_cons,List.length_append,ih,hk,List.length_cons,Nat.succ_mul];omega
theorem ZHV {α:Type}{enc:α->List Value}{k:Nat}(hk:∀x,(enc x).length=k){l:List α}{i j:Nat}(hi:i<l.length)(hj:j<k):(l.flatMap enc)[i*k+j]?=(enc l[i])[j]?:=by
 have h1:=ZBo (f:=enc) (k:=k) (P:=l) hi fun x _=>hk x;have hle:i*k+k<=l.length*k:=by
  have:(i+1)*k<=l.length*k:=Nat.mul_le_mul_right _ hi;rw[Nat.add_mul,Nat.one_mul] at this;exact this
 rw[ZCo (by rw[ZBC hk];exact hle)] at h1;have h2:((List.drop (i*k) (l.flatMap enc)).take k)[j]?=(enc l[i])[j]?:=congrArg (fun l:List Value=>l[j]?) (Option.some.inj h1);rw[List.getElem?_take_of_lt hj,List.getElem?_drop] at h2;exact h2
theorem SrcK.row {α:Type}{enc:α->List Value}{k:Nat}(hk0:0<k)(hk:∀x,(enc x).length=k){h:Heap}{b o:Nat}{oa:Option Nat}{l:List α}(hl:ZAh k (fun _ row x=>row=enc x) h (some ⟨b,o,oa⟩) l)(hne:0<l.length):ZAn h b o (l.length*k)=some (l.flatMap enc):=by
 have hfl:=ZBC hk l
 have:=ZF7 (h:=h) (b:=b) (o:=o) (l:=l.flatMap enc) (by rw[hfl];exact Nat.mul_pos hne hk0) (fun t ht=>by
  rw[hfl] at ht;have hi:t / k<l.length:=(Nat.div_lt_iff_lt_mul hk0).2 ht;have hmod:=Nat.mod_lt t hk0;have hdm:t / k*k+t % k=t:=by rw[Nat.mul_comm];exact Nat.div_add_mod t k
  obtain⟨b',o',oa',e,row,hrow,hR⟩:=hl (t / k) hi;cases e;have hR':row=enc l[t / k]:=hR;subst hR';have hg:=ZHV hk hi hmod;rw[hdm] at hg;have hlt:t<(l.flatMap enc).length:=by rw[hfl];exact ht
  have:=ZAW (k:=t % k) (v:=(l.flatMap enc)[t]) hrow (by rw[ZAj,<-hg,List.getElem?_eq_getElem hlt]);rw[Nat.add_assoc,hdm] at this;exact this)
 rwa [hfl] at this
theorem SrcK.src {P:Program} {α:Type}{enc:α->List Value}{k:Nat}(hk0:0<k)(hk:∀x,(enc x).length=k){h:Heap}{a:Option Addr}{l:List α}{cap:Nat}{el tX:TypeId}{dd:TypeDesc}(hl:SrcK enc k h a l)(hX:P.underlying tX=some dd)(hni:∀k,dd≠.int k):asrc P el k tX (.slice a l.length cap) h=some (l.length,l.flatMap enc):=by
 cases l with
 | nil =>
  rcases hl.2 rfl with rfl|⟨b,o,rfl⟩|⟨b,o,oa,rfl,h2⟩
  ·unfold asrc
   rw[hX];cases dd <;> first|rfl|exact absurd rfl (hni _)
  ·unfold asrc
   rw[hX];cases dd <;> first|rfl|exact absurd rfl (hni _)
  ·exact ZBE hX hni (by rw[List.length_nil,Nat.zero_mul];exact h2)
 | cons x l =>
  obtain⟨b,o,oa,rfl,_⟩:=hl.1 0 (by simp);exact ZBE hX hni (SrcK.row hk0 hk hl.1 (by simp))
theorem ZAA.rowsAt {α:Type}{enc:α->List Value}{k:Nat}(hk:∀x,(enc x).length=k){h0 h:Heap}{v:Value}{el:TypeId}{l:List α}{n:Nat}(ho:ZAA h0 h v el k (l.flatMap enc) n)(hn:n=l.length):∃a,v=.slice a l.length l.length/\SrcK enc k h a l/\(a=none->l=[]):=by
 subst hn
 rcases ho with ⟨rfl,e,e2⟩|⟨b,sp,op,rfl,hg,hl,_,_⟩
 ·have:l=[]:=List.eq_nil_of_length_eq_zero e2
  subst this;exact⟨none,rfl,⟨fun i hi=>absurd hi (Nat.not_lt_zero _),fun _=>.inl rfl⟩,fun _=>rfl⟩
 ·refine⟨_,rfl,⟨fun i hi=>⟨b,0,sp,rfl,enc l[i],?_,rfl⟩,fun e=>.inr (.inr ⟨b,0,sp,rfl,?_⟩)⟩,fun e=>nomatch e⟩
  ·unfold ZAn
   rw[hg];simp only;rw[Nat.zero_add];exact ZBo hi fun x _=>hk x
  ·unfold ZAn
   rw[hg];simp only[cut]
   rfl
theorem ZF8 {P:Program}{t el:TypeId}(hu:P.underlying t=some (.slice el))(n:Nat)(w:World):(Op.equalIn (n+1) t (.slice none 0 0) (.slice none 0 0)).run P w=.ok true w:=by
 simp only[Op.equalIn,Sem.run_bind,run_underlying hu,Result.andThen_ok,Sem.run_pure]
 rfl
section
variable {P:Program}{m:Mem}{h:Heap}{d:Option Tmp}{ty:TypeId}{pos:String}{af:Array Edge}{gu:Option (Nat×Bool)}{t tz el:TypeId}{x y:Operand}
theorem ZMA (hu:P.underlying t=some (.slice el))(hx:opk h m x=some (.slice none 0 0))(hy:opk h m y=some (.slice none 0 0)):Aop P ⟨d,.binOp .eql t x y tz,ty,pos,af,gu⟩ m h (.bool true) h :=
 ZCi hx hy rfl rfl rfl fun w=>by
  have h2:(eqGuard .eql t x y (.slice none 0 0) (.slice none 0 0)).run P w=.ok () w:=rfl;simp only[Sem.run_bind,h2,Result.andThen_ok]
  show (do pure (.bool (<-Op.equalIn (9999+1) t (.slice none 0 0) (.slice none 0 0))):Sem Value).run P w=_
  simp only[Sem.run_bind,ZF8 hu,Result.andThen_ok,Sem.run_pure]
theorem ZMd {a:Addr}{n c:Nat}(hu:P.underlying t=some (.slice el))(hx:opk h m x=some (.slice (some a) n c))(hy:opk h m y=some (.slice none 0 0)):Aop P ⟨d,.binOp .eql t x y tz,ty,pos,af,gu⟩ m h (.bool false) h :=
 ZAa fun e hs=>by
  show pBin P _ h e .eql t x y=_
  unfold pBin;simp only[ZAJ hs hx,ZAJ hs hy];have:ZD3 P .eql t (.slice (some a) n c) (.slice none 0 0)=some (.bool false):=by
   unfold ZD3;rw[hu]
   rfl
  simp only[this]
end
theorem ZPt (l:List WkR):allOne (l.flatMap rowW)=true:=by
 induction l with
 | nil=>rfl
 | cons x l ih=>rw[List.flatMap_cons];exact ih
theorem ZQO (l:List (List UInt8)):allOne (l.map str)=true:=by
 unfold allOne;rw[List.all_map];exact List.all_eq_true.2 fun _ _=>rfl
theorem ZKD {a:Option Addr}{cap:Nat}{l:List WkR}{h:Heap}(hs:SrcK rowW 6 h a l)(hn:a=none->l=[]/\cap=0)(hlen:l.length<=1000000) :
  Sv Tryz.prog 132 [.slice a l.length cap] h (RetP fun v' h'=>ZAA h h' v' 44 6 (l.flatMap rowW) l.length/\Ext h h'):=by
 refine ZDM fun hw=>?_;refine ZAF Tryz.func132 rfl (by rw[Tryz.ntmps132];rfl) ?_;show Wc Tryz.prog ⟨132,8,none⟩ _ _ _ _ _;refine zy ?_
 cases a with
 | none =>
  obtain⟨rfl,rfl⟩:=hn rfl;refine ZAC rfl rfl rfl rfl (ZMA Und.h rfl rfl) ?_;refine zy ?_;exact ZAG (ZAH rfl ⟨ZAA.nil _ _ _ _,Ext.refl _⟩)
 | some a =>
  refine ZAC rfl rfl rfl rfl (ZMd Und.h rfl rfl) ?_;refine zy ?_;refine ZA3 rfl rfl Und.h Tsz.h Zr.h rfl rfl rfl rfl rfl fun h1' hE1 hW1 hg1 hx1=>?_;refine zy ?_;refine ZFp (k:=l.length) (n:=0) (l:=l.flatMap rowW) hw hE1 rfl rfl rfl rfl rfl Und.h inferInstance rfl rfl (ZAA.lit (n:=0) (sz:=6) (cs:=[]) hg1 rfl (Nat.le_refl _)) (SrcK.src (enc:=rowW) (k:=6) (dd:=.slice 44) (by decide) (fun _=>rfl) (hs.ext hE1) Und.h (by intro k;simp)) (ZCZ l) (ZPt l) (by omega) (by omega) fun v2 h2 hF2 hE2 _ _ _=>?_;refine zy ?_;refine ZAG (ZAH rfl ⟨?_,hE2⟩);rw[List.nil_append,Nat.zero_add] at hF2;exact hF2
theorem ZJP {a:Option Addr}{cap:Nat}{l:List (List UInt8)}{h:Heap}(hs:ZJB str h a l)(hn:a=none->l=[]/\cap=0)(hlen:l.length<=1000000) :
  Sv Tryz.prog 156 [.slice a l.length cap] h (RetP fun v' h'=>ZAA h h' v' 9 1 (l.map str) l.length/\Ext h h'):=by
 refine ZDM fun hw=>?_;refine ZAF Tryz.func156 rfl (by rw[Tryz.ntmps156];rfl) ?_;show Wc Tryz.prog ⟨156,8,none⟩ _ _ _ _ _;refine zy ?_
 cases a with
 | none =>
  obtain⟨rfl,rfl⟩:=hn rfl;refine ZAC rfl rfl rfl rfl (ZMA Und.h rfl rfl) ?_;refine zy ?_;exact ZAG (ZAH rfl ⟨ZAA.nil _ _ _ _,Ext.refl _⟩)
 | some a =>
  refine ZAC rfl rfl rfl rfl (ZMd Und.h rfl rfl) ?_;refine zy ?_;refine ZA3 rfl rfl Und.h Tsz.h Zr.h rfl rfl rfl rfl rfl fun h1' hE1 hW1 hg1 hx1=>?_;refine zy ?_;refine ZFp (k:=l.length) (n:=0) (l:=l.map str) hw hE1 rfl rfl rfl rfl rfl Und.h inferInstance rfl rfl (ZAA.lit (n:=0) (sz:=1) (cs:=[]) hg1 rfl (Nat.le_refl _)) ((hs.ext hE1).src (dd:=.slice 9) Und.h (by intro k;simp)) (by rw[List.length_map];omega) (ZQO l) (by omega) (by omega) fun v2 h2 hF2 hE2 _ _ _=>?_;refine zy ?_;refine ZAG (ZAH rfl ⟨?_,hE2⟩);rw[List.nil_append,Nat.zero_add] at hF2;exact hF2
theorem ZGk (a b:List UInt8):((⟨⟨a⟩⟩:ByteArray) == ⟨⟨b⟩⟩)=decide (a=b):=by
 have:((⟨⟨a⟩⟩:ByteArray) == ⟨⟨b⟩⟩)=((⟨a⟩:Array UInt8) == ⟨b⟩):=rfl;rw[this,Bool.eq_iff_iff];simp
noncomputable def strK:KeyK Tryz.prog 9 (List UInt8) where
 enc:=str
 ks:=.basic .string
 hks:=by kernel_rfl
 flat:=fun _=>rfl
 ok:=fun _=>rfl
 eq:=fun a b=>by
  show Instr.sameNow .string (str a) (str b)=_
  simp[Instr.sameNow,ZGk]
 same:=fun a=>by simp[Instr.sameBits,ZGk]
abbrev encT:List UInt8->List Value:=fun x=>[str x]
theorem ZK9 (n:Nat):allOne (rep n [str []])=true:=by
 induction n with
 | zero=>rfl
 | succ n ih =>
  rw[ZFL]
  show allOne (str []::rep n [str []])=true
  simp only[allOne,List.all_cons] at ih ⊢;rw[ih];rfl
set_option maxHeartbeats 8000000 in
theorem ZHt {h0 h:Heap}{v:Value}{S:List (List UInt8)}(hF:ZAA h0 h v 9 1 (S.flatMap encT) S.length)(hlen:S.length<=1000000)(hw0:WF h0)(hE0:Ext h0 h) :
  Sv Tryz.prog 158 [v] h (RetP fun r h'=>Ext h0 h'/\Exb (fun c=>ZA4 v=some c) h h'/\∃a cap,r=.slice a (cmpG S S.length).length cap/\SrcK encT 1 h' a (cmpG S S.length)/\(a=none->cmpG S S.length=[]/\cap=0)/\∀b o sp,a=some ⟨b,o,sp⟩->ZA4 v=some b):=by
 obtain⟨a0,e0,hI0,hn0⟩:=ZAA.rowsAt (enc:=encT) (k:=1) (fun _=>rfl) hF rfl
 by_cases hS2:S.length<2
 ·have hall:cmpG S S.length=S:=by
   rw[ZEK (Nat.le_refl _) fun i hi=>decide_eq_true (Or.inl (by omega)),List.take_length]
  rw[hall];subst e0;refine ZAF Tryz.func158 rfl (by rw[Tryz.ntmps158];rfl) ?_;show Wc Tryz.prog ⟨158,61,none⟩ _ _ _ _ _;refine zy ?_;refine ZAC rfl rfl rfl rfl (A_tt (show (S.length:Int)<2 by omega) (ZAc rfl rfl)) ?_;refine zy ?_;exact ZAG (ZAH rfl ⟨hE0,Exb.refl _ _,_,_,rfl,hI0,fun e=>⟨hn0 e,by rw[hn0 e];rfl⟩,fun b o sp e=>by rw[e];rfl⟩)
 rcases hF with ⟨-,-,hz⟩|⟨b,sp,op,rfl,hg,-,hb0,hsp⟩
 ·omega
 clear e0 hI0 hn0;have hfl:∀l:List (List UInt8),(l.flatMap encT).length=l.length*1:=fun l=>ZBC (enc:=encT) (k:=1) (fun _=>rfl) l
 have hI:∀i (hi:i<S.length),ZAn h b (i*1) 1=some (encT S[i]):=fun i hi=>by
  unfold ZAn;rw[hg];exact ZBo hi fun _ _=>rfl
 have hSr:ZAh 1 (fun _ row x=>row=encT x) h (some ⟨b,0,sp⟩) S:=fun i hi=>⟨b,0,sp,rfl,encT S[i],by rw[Nat.zero_add];exact hI i hi,rfl⟩;refine ZAF Tryz.func158 rfl (by rw[Tryz.ntmps158];rfl) ?_;show Wc Tryz.prog ⟨158,61,none⟩ _ _ _ _ _;refine zy ?_;refine ZAC rfl rfl rfl rfl (A_ff (show ¬(S.length:Int)<2 by omega) (ZAc rfl rfl)) ?_;refine zy ?_;refine ZAP (fun (j:Nat) m ds h'=>ds=[]/\1<=j/\j<=S.length/\h'=h/\(∀i,i<j->anew S i=true)/\AllK m [(0,.slice (some ⟨b,0,sp⟩) S.length S.length),(3,i64 (j:Nat))]) (fun j=>S.length-j) 1 ?_ ?_
 ·exact⟨rfl,Nat.le_refl _,by omega,rfl,(fun i hi=>decide_eq_true (Or.inl (by omega))),rfl,rfl,trivial⟩
 rintro j m ds h1 ⟨rfl,hj1,hj,e1,hnew,hall⟩;subst h1;refine Wc.le ?_ (Le.kn hall);refine zy ?_;refine ZAS rfl rfl rfl rfl (ZAc rfl rfl) (fun hjl=>?_) (fun hjl=>?_);rotate_left
 ·have hk2:j=S.length:=by omega
  subst hk2;have hall:cmpG S S.length=S:=by rw[ZEK (Nat.le_refl _) hnew,List.take_length]
  rw[hall];refine zy ?_;exact ZAG (ZAH rfl ⟨hE0,Exb.refl _ _,_,_,rfl,⟨hSr,fun e=>by rw[e] at hS2;simp at hS2⟩,(fun e=>nomatch e),fun b1 o1 s1 e=>by cases e;rfl⟩)
 have hj':j<S.length:=by omega
 obtain⟨k,rfl⟩:∃k,j=k+1:=⟨j-1,by omega⟩;have hk':k<S.length:=by omega
 have hc1:ZAn h b (0+(k+1)*1) 1=some (encT S[k+1]):=by rw[Nat.zero_add];exact hI _ hj'
 have hc2:ZAn h b (0+k*1) 1=some (encT S[k]):=by rw[Nat.zero_add];exact hI _ hk'
 have hnj:anew S (k+1)=decide (¬S[k+1]=S[k]):=by
  unfold anew;rw[ZBP hj',show k+1-1=k from rfl,ZBP hk'];simp
 refine zy ?_
 by_cases heq:S[k+1]=S[k]
 rotate_left
 ·have hnj2:anew S (k+1)=true:=by rw[hnj];exact decide_eq_true heq
  generalize S[k+1]=x at *;generalize S[k]=y at *;have hd1:=ZAW (k:=0) hc1 rfl;have hd2:=ZAW (k:=0) hc2 rfl;rw[Nat.add_zero] at hd1 hd2;refine ZAQ hmix [0,0,3,7,0,0,32,112,240,511] [0,1,2,3,4,5,6,7,8,9] none [] (by kernel_rfl) (by kernel_rfl) ?_;refine z_m ?_;refine z_m ?_;refine ZAE rfl rfl rfl rfl rfl (fun _=>A_ix (k:=k+1) Und.h Tsz.h rfl rfl) ?_;refine z_l ?_;refine z_m ?_;refine z_m ?_;refine ZAE rfl rfl rfl rfl rfl (fun _=>ZIk rfl rfl (by omega) (by omega)) ?_;refine ZAE rfl rfl rfl rfl rfl (fun _=>ZAN (k:=k) Und.h Tsz.h rfl rfl (by omega) (by omega)) ?_;refine z_l ?_;refine ZAE rfl rfl rfl rfl rfl (fun _=>A_ff heq (ZAy rfl rfl)) ?_
  refine ZAV (ZAB rfl) nb' ?_;refine zy ?_;refine⟨k+1+1,(by show S.length-(k+1+1)<S.length-(k+1);omega),rfl,by omega,by omega,rfl,fun i hi=>?_,rfl,rfl,trivial⟩
  rcases Nat.lt_or_ge i (k+1) with q|q
  ·exact hnew i q
  ·have:i=k+1:=by omega
   rw[this];exact hnj2
 have hnj2:anew S (k+1)=false:=by rw[hnj];exact decide_eq_false (fun q=>q heq)
 obtain⟨a2,c2,hfr,hA⟩:=ZId (z:=0) (P:=Tryz.prog) (t:=38) (el:=9) (b:=b) (n:=S.length) (k:=k+1) (sp:=sp) (kj:=.i64) Und.h Tsz.h hsp (by omega);obtain⟨o1,e1,e2⟩:=hfr hj';rw[e2] at e1;subst e1;have hcm0:cmpG S (k+1)=S.take (k+1):=ZEK (by omega) hnew;have hcl0:(cmpG S (k+1+1)).length=k+1:=by rw[ZBu,if_neg (by rw[hnj2];simp),hcm0,List.length_take];omega
 generalize hx:S[k+1]=x at *;generalize hy:S[k]=y at *;have hd1:=ZAW (k:=0) hc1 rfl;have hd2:=ZAW (k:=0) hc2 rfl;rw[Nat.add_zero] at hd1 hd2;refine ZAQ hmix [0,0,3,7,0,0,32,112,240,511] [0,1,2,3,4,5,6,7,8,9] none [] (by kernel_rfl) (by kernel_rfl) ?_;refine z_m ?_;refine z_m ?_;refine ZAE rfl rfl rfl rfl rfl (fun _=>A_ix (k:=k+1) Und.h Tsz.h rfl rfl) ?_;refine z_l ?_;refine z_m ?_;refine z_m ?_;refine ZAE rfl rfl rfl rfl rfl (fun _=>ZIk rfl rfl (by omega) (by omega)) ?_;refine ZAE rfl rfl rfl rfl rfl (fun _=>ZAN (k:=k) Und.h Tsz.h rfl rfl (by omega) (by omega)) ?_;refine z_l ?_;refine ZAE rfl rfl rfl rfl rfl (fun _=>A_tt heq (ZAy rfl rfl)) ?_
 refine ZAV (ZAB rfl) nb' ?_;refine zy ?_;refine ZAC rfl rfl rfl rfl (hA rfl rfl) ?_;refine zy ?_
 refine ZAP (fun (i:Nat) m ds h'=>ds=[]/\1<=i/\i<=S.length-(k+1)/\Exb (fun c=>c=b) h h'/\(∃cs:List Value,h'.get b=some (.cells cs 9 op)/\cs.length=S.length*1/\cs.take ((cmpG S (k+1+i)).length*1)=(cmpG S (k+1+i)).flatMap encT/\cs.drop ((k+i)*1)=(S.flatMap encT).drop ((k+i)*1))/\(cmpG S (k+1+i)).length<=k+i/\1<=(cmpG S (k+1+i)).length ∧
   AllK m [(0,.slice (some ⟨b,0,sp⟩) S.length S.length),(3,i64 ((cmpG S (k+1+i)).length:Nat)),(4,.slice (some ⟨b,(k+1)*1,sp⟩) (S.length-(k+1)) c2),(5,i64 (i:Nat))]) (fun i=>S.length-i) 1 ?_ ?_
 ·refine⟨rfl,Nat.le_refl _,by omega,Exb.refl _ _,⟨_,hg,by rw[hfl],?_,rfl⟩,by omega,by omega,rfl,(by rw[hcl0];rfl),rfl,rfl,trivial⟩
  rw[hcl0,ZBu,if_neg (by rw[hnj2];simp),hcm0]
  conv=>lhs;rw[<-List.take_append_drop (k+1) S,List.flatMap_append]
  exact List.take_left' (by rw[hfl,List.length_take,Nat.min_eq_left (by omega)])
 rintro i m ds h2 ⟨rfl,hi1,hi,hX2,⟨cs,hg2,hcl,hct,hcd⟩,hql,hq1,hall⟩;refine Wc.le ?_ (Le.kn hall);refine zy ?_;refine ZAS rfl rfl rfl rfl (ZAc rfl rfl) (fun hil=>?_) (fun hil=>?_)
 ·have hi':k+1+i<S.length:=by omega
  obtain⟨i,rfl⟩:∃i',i=i'+1:=⟨i-1,by omega⟩;have hi2:k+1+i<S.length:=by omega
  have hstep:=ZBu S (k+1+(i+1));have hn2:anew S (k+1+(i+1))=decide (S[k+1+(i+1)]≠S[k+1+i]):=by
   unfold anew;rw[ZBP hi',show k+1+(i+1)-1=k+1+i by omega,ZBP hi2];simp
  rw[ZBP hi',hn2] at hstep
  have hrow:∀j (hj:j<S.length),k+(i+1)<=j->ZAn h2 b (j*1) 1=some (encT S[j]):=fun j hj hge=>by
   unfold ZAn;rw[hg2]
   show cut cs (j*1) 1=_
   have h1:=ZBo (f:=encT) (k:=1) (P:=S) hj fun _ _=>rfl;rw[ZCo (by rw[hfl];omega)] at h1;rw[ZCo (by rw[hcl];omega),<-h1]
   congr 2
   have e3:(cs.drop ((k+(i+1))*1)).drop ((j-(k+(i+1)))*1)=((S.flatMap encT).drop ((k+(i+1))*1)).drop ((j-(k+(i+1)))*1):=by rw[hcd]
   rw[List.drop_drop,List.drop_drop,show (k+(i+1))*1+(j-(k+(i+1)))*1=j*1 by omega] at e3;exact e3
  have hc1:ZAn h2 b ((k+1)*1+(i+1)*1) 1=some (encT S[k+1+(i+1)]):=by
   have:=hrow (k+1+(i+1)) hi' (by omega)
   rwa [show (k+1+(i+1))*1=(k+1)*1+(i+1)*1 by omega] at this
  have hc2:ZAn h2 b ((k+1)*1+i*1) 1=some (encT S[k+1+i]):=by
   have:=hrow (k+1+i) hi2 (by omega)
   rwa [show (k+1+i)*1=(k+1)*1+i*1 by omega] at this
  have hdr:cs.drop ((k+(i+1+1))*1)=(S.flatMap encT).drop ((k+(i+1+1))*1):=by
   have e1:(cs.drop ((k+(i+1))*1)).drop 1=((S.flatMap encT).drop ((k+(i+1))*1)).drop 1:=by rw[hcd]
   rw[List.drop_drop,List.drop_drop,show (k+(i+1))*1+1=(k+(i+1+1))*1 by omega] at e1;exact e1
  have hkk:k+1+(i+1)+1=k+1+(i+1+1):=by omega
  rw[hkk] at hstep;clear hrow;generalize S[k+1+(i+1)]=x2 at *;generalize S[k+1+i]=y2 at *;generalize hqq:(cmpG S (k+1+(i+1))).length=q at *;have hd1:=ZAW (k:=0) hc1 rfl;have hd2:=ZAW (k:=0) hc2 rfl;rw[Nat.add_zero] at hd1 hd2;refine zy ?_
  by_cases hne:x2=y2
  ·rw[if_neg (by simp[hne])] at hstep
   refine ZAQ hmix [0,0,3,7,0,0,32,112,240,511] [0,1,2,3,4,5,6,7,8,9] none [] (by kernel_rfl) (by kernel_rfl) ?_;refine z_m ?_;refine z_m ?_;refine ZAE rfl rfl rfl rfl rfl (fun _=>A_ix (k:=i+1) Und.h Tsz.h rfl rfl) ?_;refine z_l ?_;refine z_m ?_;refine z_m ?_;refine ZAE rfl rfl rfl rfl rfl (fun _=>ZIk rfl rfl (by omega) (by omega)) ?_;refine ZAE rfl rfl rfl rfl rfl (fun _=>ZAN (k:=i) Und.h Tsz.h rfl rfl (by omega) (by omega)) ?_;refine z_l ?_;refine ZAE rfl rfl rfl rfl rfl (fun _=>A_ff (show ¬x2≠y2 from fun q=>q hne) (ZAl rfl rfl)) ?_;refine ZAV (ZAB rfl) nb' ?_;refine zy ?_;exact⟨i+1+1,(by show S.length-(i+1+1)<S.length-(i+1);omega),rfl,by omega,by omega,hX2,⟨cs,hg2,hcl,by rw[hstep,hqq];exact hct,hdr⟩,(by rw[hstep,hqq];omega),(by rw[hstep,hqq];omega),rfl,(by rw[hstep,hqq];rfl),rfl,rfl,trivial⟩
  ·rw[if_pos (by simp[hne])] at hstep
   have hql2:(cmpG S (k+1+(i+1+1))).length=q+1:=by rw[hstep,List.length_append,hqq];rfl
   have hqlt:q<S.length:=by omega
   refine ZAQ hmix [0,0,3,7,0,0,32,112,240,511] [0,1,2,3,4,5,6,7,8,9] none [] (by kernel_rfl) (by kernel_rfl) ?_;refine z_m ?_;refine z_m ?_;refine ZAE rfl rfl rfl rfl rfl (fun _=>A_ix (k:=i+1) Und.h Tsz.h rfl rfl) ?_;refine z_l ?_;refine z_m ?_;refine z_m ?_;refine ZAE rfl rfl rfl rfl rfl (fun _=>ZIk rfl rfl (by omega) (by omega)) ?_;refine ZAE rfl rfl rfl rfl rfl (fun _=>ZAN (k:=i) Und.h Tsz.h rfl rfl (by omega) (by omega)) ?_;refine z_l ?_;refine ZAE rfl rfl rfl rfl rfl (fun _=>A_tt (show x2≠y2 from hne) (ZAl rfl rfl)) ?_;refine ZAV (ZAB rfl) nb' ?_;refine zy ?_;refine ZAC rfl rfl rfl rfl (A_ix Und.h Tsz.h rfl rfl) ?_
   refine zy ?_;refine ZAC rfl rfl rfl rfl (A_ix Und.h Tsz.h rfl rfl) ?_;refine zy ?_;refine ZBL rfl Tsz.h rfl rfl hg2 rfl rfl (ZCR (by show 0+q*1+1<=cs.length;rw[hcl];omega)) fun h4 hU=>?_;refine zy ?_;have hlt:(cs.take (q*1)).length=q*1:=by rw[List.length_take,hcl];omega
   rw[Nat.zero_add] at hU;refine⟨i+1+1,(by show S.length-(i+1+1)<S.length-(i+1);omega),rfl,by omega,by omega,hX2.upd hU rfl,⟨_,hU.at',?_,?_,?_⟩,by omega,by omega,rfl,(by rw[hql2];rfl),rfl,rfl,trivial⟩
   ·rw[List.length_append,hlt,List.length_append,List.length_drop,hcl]
    show q*1+(1+(S.length*1-(q*1+1)))=S.length*1
    omega
   ·rw[hql2,hstep,List.flatMap_append,<-hct,<-List.append_assoc]
    refine (List.take_left' ?_).trans ?_
    ·rw[List.length_append,hlt]
     show q*1+1=(q+1)*1
     omega
    ·rw[List.flatMap_singleton];rfl
   ·rw[<-hdr,<-List.append_assoc,List.drop_append,List.drop_eq_nil_of_le (by
     rw[List.length_append,hlt]
     show q*1+1<=(k+(i+1+1))*1
     omega),List.nil_append,List.drop_drop,List.length_append,hlt]
    congr 1
    show q*1+1+((k+(i+1+1))*1-(q*1+1))=_
    omega
 have hk2:k+1+i=S.length:=by omega
 rw[hk2] at hct hq1;have hql3:(cmpG S S.length).length<S.length:=by rw[<-hk2];omega
 generalize hqq:(cmpG S S.length).length=q at *;obtain⟨a3,c3,hfr3,hA3⟩:=ZId (z:=0) (P:=Tryz.prog) (t:=38) (el:=9) (b:=b) (n:=S.length) (k:=q) (sp:=sp) (kj:=.i64) Und.h Tsz.h hsp (by omega);obtain⟨o3,e1,e2⟩:=hfr3 hql3;rw[e2] at e1;subst e1;obtain⟨c4,hc4,hB⟩:=ZS0 (z:=0) (P:=Tryz.prog) (t:=38) (el:=9) (b:=b) (n:=S.length) (k:=q) (sp:=sp) (kj:=.i64) Und.h Tsz.h hsp (by omega);rw[hk2,hqq];refine zy ?_;refine ZAC rfl rfl rfl rfl (hA3 rfl rfl) ?_;refine zy ?_
 refine ZHS rfl rfl rfl (ZL5 rfl rfl rfl rfl (ZMJ (z:=(str [])) Und.h Zr.h rfl (ZK9 _) (by rcases hsp with rfl|rfl <;> simp) (by omega) hg2 (ZCR (by rw[ZC3,hcl];show q*1+(S.length-q)*1<=S.length*1;omega)))) ?_
 refine zy ?_;refine ZAC rfl rfl rfl rfl (hB rfl rfl) ?_;refine zy ?_;have hX3:Exb (fun c=>c=b) h (h2.set b (.cells (cs.take (q*1)++(rep (S.length-q) ((str [])).cells.toList++cs.drop (q*1+(rep (S.length-q) ((str [])).cells.toList).length))) 9 op)):=hX2.set _ rfl;refine ZAG (ZAH rfl ⟨hX3.ext hE0 hw0 fun c hc=>by rw[hc];exact hb0,hX3.mono fun c hc=>by rw[hc];rfl,_,c4,rfl,⟨fun i hi=>⟨b,0,sp,rfl,_,?_,rfl⟩,fun e=>by rw[e] at hqq;simp at hqq;omega⟩,(fun e=>nomatch e),fun b1 o1 s1 e=>by cases e;rfl⟩);unfold ZAn;rw[Heap.get_set_self]
 show cut _ (0+i*1) 1=_
 rw[show 0+i*1=i*1 from Nat.zero_add _];have hi2:i<q:=by rw[<-hqq];exact hi
 have h1:=ZBo (f:=encT) (k:=1) (P:=cmpG S S.length) hi fun _ _=>rfl;rw[<-hct,ZCo (by rw[List.length_take,hcl];omega)] at h1;rw[ZCo (by rw[List.length_append,List.length_take,hcl];omega),<-h1]
 congr 1
 rw[List.drop_append_of_le_length (by rw[List.length_take,hcl];omega),List.take_append_of_le_length (by rw[List.length_drop,List.length_take,hcl];omega)]
noncomputable def recK:KeyK Tryz.prog 44 WkR where
 enc:=fun x=>.agg ⟨rowW x⟩
 ks:=.struct [(.string,0),(.int .i64,1),(.int .i64,2),(.int .i64,3),(.string,4),(.string,5)]
 hks:=by kernel_rfl
 flat:=fun _=>rfl
 ok:=fun _=>rfl
 eq:=fun a b=>by
  obtain⟨a1,a2,a3,a4,a5,a6⟩:=a;obtain⟨b1,b2,b3,b4,b5,b6⟩:=b
  show eqFs [(.string,0),(.int .i64,1),(.int .i64,2),(.int .i64,3),(.string,4),(.string,5)] [str a1,i64 a2,i64 a3,i64 a4,str a5,str a6] [str b1,i64 b2,i64 b3,i64 b4,str b5,str b6]=_
  have e:∀x y:Int,(x == y)=decide (x=y):=fun _ _=>rfl;simp only[eqFs,nth,Instr.sameNow,e,ZGk,WkR.mk.injEq]
  by_cases h1:a1=b1 <;> by_cases h2:a2=b2 <;> by_cases h3:a3=b3 <;> by_cases h4:a4=b4 <;> by_cases h5:a5=b5 <;> by_cases h6:a6=b6 <;> simp[h1,h2,h3,h4,h5,h6]
 same:=fun a=>by simp[Instr.sameBits,ZGk]
theorem recG:Tryz.prog.eqGuardType Tryz.prog.depth 44=false:=by kernel_rfl
noncomputable def keyK:KeyK Tryz.prog 51 Key where
 enc:=fun k=>.agg ⟨rowK k⟩
 ks:=.struct [(.string,0),(.int .i64,1)]
 hks:=by kernel_rfl
 flat:=fun _=>rfl
 ok:=fun _=>rfl
 eq:=fun a b=>by
  obtain⟨a1,a2⟩:=a;obtain⟨b1,b2⟩:=b
  show eqFs [(.string,0),(.int .i64,1)] [str a1,i64 a2] [str b1,i64 b2]=_
  have e:∀x y:Int,(x == y)=decide (x=y):=fun _ _=>rfl;simp only[eqFs,nth,Instr.sameNow,e,ZGk,Prod.mk.injEq]
  by_cases h1:a1=b1 <;> by_cases h2:a2=b2 <;> simp[h1,h2]
 same:=fun a=>by simp[Instr.sameBits,ZGk]
theorem keyG:Tryz.prog.eqGuardType Tryz.prog.depth 51=false:=by kernel_rfl
theorem ZLh (n:Nat):allOne (rep n (Value.agg ⟨[str [],i64 0,i64 0,i64 0,str [],str []]⟩).cells.toList)=true:=by
 induction n with
 | zero=>rfl
 | succ n ih=>rw[ZFL];exact ih
set_option maxHeartbeats 8000000 in
theorem ZHm {h0 h:Heap}{v:Value}{S:List WkR}(hF:ZAA h0 h v 44 6 (S.flatMap rowW) S.length)(hlen:S.length<=1000000)(hw0:WF h0)(hE0:Ext h0 h) :
  Sv Tryz.prog 134 [v] h (RetP fun r h'=>Ext h0 h'/\Exb (fun c=>ZA4 v=some c) h h'/\∃a cap,r=.slice a (cmpG S S.length).length cap/\SrcK rowW 6 h' a (cmpG S S.length)/\(a=none->cmpG S S.length=[]/\cap=0)/\∀b o sp,a=some ⟨b,o,sp⟩->ZA4 v=some b):=by
 obtain⟨a0,e0,hI0,hn0⟩:=ZAA.rowsAt (enc:=rowW) (k:=6) (fun _=>rfl) hF rfl
 by_cases hS2:S.length<2
 ·have hall:cmpG S S.length=S:=by
   rw[ZEK (Nat.le_refl _) fun i hi=>decide_eq_true (Or.inl (by omega)),List.take_length]
  rw[hall];subst e0;refine ZAF Tryz.func134 rfl (by rw[Tryz.ntmps134];rfl) ?_;show Wc Tryz.prog ⟨134,61,none⟩ _ _ _ _ _;refine zy ?_;refine ZAC rfl rfl rfl rfl (A_tt (show (S.length:Int)<2 by omega) (ZAc rfl rfl)) ?_;refine zy ?_;exact ZAG (ZAH rfl ⟨hE0,Exb.refl _ _,_,_,rfl,hI0,fun e=>⟨hn0 e,by rw[hn0 e];rfl⟩,fun b o sp e=>by rw[e];rfl⟩)
 rcases hF with ⟨-,-,hz⟩|⟨b,sp,op,rfl,hg,-,hb0,hsp⟩
 ·omega
 clear e0 hI0 hn0;have hfl:∀l:List WkR,(l.flatMap rowW).length=l.length*6:=fun l=>ZBC (enc:=rowW) (k:=6) (fun _=>rfl) l
 have hI:∀i (hi:i<S.length),ZAn h b (i*6) 6=some (rowW S[i]):=fun i hi=>by
  unfold ZAn;rw[hg];exact ZBo hi fun _ _=>rfl
 have hSr:ZAh 6 (fun _ row x=>row=rowW x) h (some ⟨b,0,sp⟩) S:=fun i hi=>⟨b,0,sp,rfl,rowW S[i],by rw[Nat.zero_add];exact hI i hi,rfl⟩;refine ZAF Tryz.func134 rfl (by rw[Tryz.ntmps134];rfl) ?_;show Wc Tryz.prog ⟨134,61,none⟩ _ _ _ _ _;refine zy ?_;refine ZAC rfl rfl rfl rfl (A_ff (show ¬(S.length:Int)<2 by omega) (ZAc rfl rfl)) ?_;refine zy ?_;refine ZAP (fun (j:Nat) m ds h'=>ds=[]/\1<=j/\j<=S.length/\h'=h/\(∀i,i<j->anew S i=true)/\AllK m [(0,.slice (some ⟨b,0,sp⟩) S.length S.length),(3,i64 (j:Nat))]) (fun j=>S.length-j) 1 ?_ ?_
 ·exact⟨rfl,Nat.le_refl _,by omega,rfl,(fun i hi=>decide_eq_true (Or.inl (by omega))),rfl,rfl,trivial⟩
 rintro j m ds h1 ⟨rfl,hj1,hj,e1,hnew,hall⟩;subst h1;refine Wc.le ?_ (Le.kn hall);refine zy ?_;refine ZAS rfl rfl rfl rfl (ZAc rfl rfl) (fun hjl=>?_) (fun hjl=>?_);rotate_left
 ·have hk2:j=S.length:=by omega
  subst hk2;have hall:cmpG S S.length=S:=by rw[ZEK (Nat.le_refl _) hnew,List.take_length]
  rw[hall];refine zy ?_;exact ZAG (ZAH rfl ⟨hE0,Exb.refl _ _,_,_,rfl,⟨hSr,fun e=>by rw[e] at hS2;simp at hS2⟩,(fun e=>nomatch e),fun b1 o1 s1 e=>by cases e;rfl⟩)
 have hj':j<S.length:=by omega
 obtain⟨k,rfl⟩:∃k,j=k+1:=⟨j-1,by omega⟩;have hk':k<S.length:=by omega
 have hc1:ZAn h b (0+(k+1)*6) 6=some (rowW S[k+1]):=by rw[Nat.zero_add];exact hI _ hj'
 have hc2:ZAn h b (0+k*6) 6=some (rowW S[k]):=by rw[Nat.zero_add];exact hI _ hk'
 have hnj:anew S (k+1)=decide (¬S[k+1]=S[k]):=by
  unfold anew;rw[ZBP hj',show k+1-1=k from rfl,ZBP hk'];simp
 refine zy ?_
 by_cases heq:S[k+1]=S[k]
 rotate_left
 ·have hnj2:anew S (k+1)=true:=by rw[hnj];exact decide_eq_true heq
  generalize S[k+1]=x at *;generalize S[k]=y at *;refine ZAQ hmix [0,0,3,7,0,0,32,112,240,511] [0,1,2,3,4,5,6,7,8,9] none [] (by kernel_rfl) (by kernel_rfl) ?_;refine z_m ?_;refine z_m ?_;refine ZAE rfl rfl rfl rfl rfl (fun _=>A_ix (k:=k+1) Und.h Tsz.h rfl rfl) ?_;refine z_r ?_;refine z_m ?_;refine z_m ?_;refine ZAE rfl rfl rfl rfl rfl (fun _=>ZIk rfl rfl (by omega) (by omega)) ?_;refine ZAE rfl rfl rfl rfl rfl (fun _=>ZAN (k:=k) Und.h Tsz.h rfl rfl (by omega) (by omega)) ?_;refine z_r ?_;refine ZAE rfl rfl rfl rfl rfl (fun _=>A_ff heq (ZMD recK rfl rfl recG rfl rfl)) ?_;refine ZAV (ZAB rfl) nb' ?_
  refine zy ?_;refine⟨k+1+1,(by show S.length-(k+1+1)<S.length-(k+1);omega),rfl,by omega,by omega,rfl,fun i hi=>?_,rfl,rfl,trivial⟩
  rcases Nat.lt_or_ge i (k+1) with q|q
  ·exact hnew i q
  ·have:i=k+1:=by omega
   rw[this];exact hnj2
 have hnj2:anew S (k+1)=false:=by rw[hnj];exact decide_eq_false (fun q=>q heq)
 obtain⟨a2,c2,hfr,hA⟩:=ZId (z:=5) (P:=Tryz.prog) (t:=22) (el:=44) (b:=b) (n:=S.length) (k:=k+1) (sp:=sp) (kj:=.i64) Und.h Tsz.h hsp (by omega);obtain⟨o1,e1,e2⟩:=hfr hj';rw[e2] at e1;subst e1;have hcm0:cmpG S (k+1)=S.take (k+1):=ZEK (by omega) hnew;have hcl0:(cmpG S (k+1+1)).length=k+1:=by rw[ZBu,if_neg (by rw[hnj2];simp),hcm0,List.length_take];omega
 generalize hx:S[k+1]=x at *;generalize hy:S[k]=y at *;refine ZAQ hmix [0,0,3,7,0,0,32,112,240,511] [0,1,2,3,4,5,6,7,8,9] none [] (by kernel_rfl) (by kernel_rfl) ?_;refine z_m ?_;refine z_m ?_;refine ZAE rfl rfl rfl rfl rfl (fun _=>A_ix (k:=k+1) Und.h Tsz.h rfl rfl) ?_;refine z_r ?_;refine z_m ?_;refine z_m ?_;refine ZAE rfl rfl rfl rfl rfl (fun _=>ZIk rfl rfl (by omega) (by omega)) ?_;refine ZAE rfl rfl rfl rfl rfl (fun _=>ZAN (k:=k) Und.h Tsz.h rfl rfl (by omega) (by omega)) ?_;refine z_r ?_;refine ZAE rfl rfl rfl rfl rfl (fun _=>A_tt heq (ZMD recK rfl rfl recG rfl rfl)) ?_;refine ZAV (ZAB rfl) nb' ?_
 refine zy ?_;refine ZAC rfl rfl rfl rfl (hA rfl rfl) ?_;refine zy ?_
 refine ZAP (fun (i:Nat) m ds h'=>ds=[]/\1<=i/\i<=S.length-(k+1)/\Exb (fun c=>c=b) h h'/\(∃cs:List Value,h'.get b=some (.cells cs 44 op)/\cs.length=S.length*6/\cs.take ((cmpG S (k+1+i)).length*6)=(cmpG S (k+1+i)).flatMap rowW/\cs.drop ((k+i)*6)=(S.flatMap rowW).drop ((k+i)*6))/\(cmpG S (k+1+i)).length<=k+i/\1<=(cmpG S (k+1+i)).length ∧
   AllK m [(0,.slice (some ⟨b,0,sp⟩) S.length S.length),(3,i64 ((cmpG S (k+1+i)).length:Nat)),(4,.slice (some ⟨b,(k+1)*6,sp⟩) (S.length-(k+1)) c2),(5,i64 (i:Nat))]) (fun i=>S.length-i) 1 ?_ ?_
 ·refine⟨rfl,Nat.le_refl _,by omega,Exb.refl _ _,⟨_,hg,by rw[hfl],?_,rfl⟩,by omega,by omega,rfl,(by rw[hcl0];rfl),rfl,rfl,trivial⟩
  rw[hcl0,ZBu,if_neg (by rw[hnj2];simp),hcm0]
  conv=>lhs;rw[<-List.take_append_drop (k+1) S,List.flatMap_append]
  exact List.take_left' (by rw[hfl,List.length_take,Nat.min_eq_left (by omega)])
 rintro i m ds h2 ⟨rfl,hi1,hi,hX2,⟨cs,hg2,hcl,hct,hcd⟩,hql,hq1,hall⟩;refine Wc.le ?_ (Le.kn hall);refine zy ?_;refine ZAS rfl rfl rfl rfl (ZAc rfl rfl) (fun hil=>?_) (fun hil=>?_)
 ·have hi':k+1+i<S.length:=by omega
  obtain⟨i,rfl⟩:∃i',i=i'+1:=⟨i-1,by omega⟩;have hi2:k+1+i<S.length:=by omega
  have hstep:=ZBu S (k+1+(i+1));have hn2:anew S (k+1+(i+1))=decide (S[k+1+(i+1)]≠S[k+1+i]):=by
   unfold anew;rw[ZBP hi',show k+1+(i+1)-1=k+1+i by omega,ZBP hi2];simp
  rw[ZBP hi',hn2] at hstep
  have hrow:∀j (hj:j<S.length),k+(i+1)<=j->ZAn h2 b (j*6) 6=some (rowW S[j]):=fun j hj hge=>by
   unfold ZAn;rw[hg2]
   show cut cs (j*6) 6=_
   have h1:=ZBo (f:=rowW) (k:=6) (P:=S) hj fun _ _=>rfl;rw[ZCo (by rw[hfl];omega)] at h1;rw[ZCo (by rw[hcl];omega),<-h1]
   congr 2
   have e3:(cs.drop ((k+(i+1))*6)).drop ((j-(k+(i+1)))*6)=((S.flatMap rowW).drop ((k+(i+1))*6)).drop ((j-(k+(i+1)))*6):=by rw[hcd]
   rw[List.drop_drop,List.drop_drop,show (k+(i+1))*6+(j-(k+(i+1)))*6=j*6 by omega] at e3;exact e3
  have hc1:ZAn h2 b ((k+1)*6+(i+1)*6) 6=some (rowW S[k+1+(i+1)]):=by
   have:=hrow (k+1+(i+1)) hi' (by omega)
   rwa [show (k+1+(i+1))*6=(k+1)*6+(i+1)*6 by omega] at this
  have hc2:ZAn h2 b ((k+1)*6+i*6) 6=some (rowW S[k+1+i]):=by
   have:=hrow (k+1+i) hi2 (by omega)
   rwa [show (k+1+i)*6=(k+1)*6+i*6 by omega] at this
  have hdr:cs.drop ((k+(i+1+1))*6)=(S.flatMap rowW).drop ((k+(i+1+1))*6):=by
   have e1:(cs.drop ((k+(i+1))*6)).drop 6=((S.flatMap rowW).drop ((k+(i+1))*6)).drop 6:=by rw[hcd]
   rw[List.drop_drop,List.drop_drop,show (k+(i+1))*6+6=(k+(i+1+1))*6 by omega] at e1;exact e1
  have hkk:k+1+(i+1)+1=k+1+(i+1+1):=by omega
  rw[hkk] at hstep;clear hrow;generalize S[k+1+(i+1)]=x2 at *;generalize S[k+1+i]=y2 at *;generalize hqq:(cmpG S (k+1+(i+1))).length=q at *;refine zy ?_
  by_cases hne:x2=y2
  ·rw[if_neg (by simp[hne])] at hstep
   refine ZAQ hmix [0,0,3,7,0,0,32,112,240,511] [0,1,2,3,4,5,6,7,8,9] none [] (by kernel_rfl) (by kernel_rfl) ?_;refine z_m ?_;refine z_m ?_;refine ZAE rfl rfl rfl rfl rfl (fun _=>A_ix (k:=i+1) Und.h Tsz.h rfl rfl) ?_;refine z_r ?_;refine z_m ?_;refine z_m ?_;refine ZAE rfl rfl rfl rfl rfl (fun _=>ZIk rfl rfl (by omega) (by omega)) ?_;refine ZAE rfl rfl rfl rfl rfl (fun _=>ZAN (k:=i) Und.h Tsz.h rfl rfl (by omega) (by omega)) ?_;refine z_r ?_;refine ZAE rfl rfl rfl rfl rfl (fun _=>A_ff (show ¬x2≠y2 from fun q=>q hne) (ZJV recK rfl rfl recG rfl rfl)) ?_;refine ZAV (ZAB rfl) nb' ?_;refine zy ?_;exact⟨i+1+1,(by show S.length-(i+1+1)<S.length-(i+1);omega),rfl,by omega,by omega,hX2,⟨cs,hg2,hcl,by rw[hstep,hqq];exact hct,hdr⟩,(by rw[hstep,hqq];omega),(by rw[hstep,hqq];omega),rfl,(by rw[hstep,hqq];rfl),rfl,rfl,trivial⟩
  ·rw[if_pos (by simp[hne])] at hstep
   have hql2:(cmpG S (k+1+(i+1+1))).length=q+1:=by rw[hstep,List.length_append,hqq];rfl
   have hqlt:q<S.length:=by omega
   refine ZAQ hmix [0,0,3,7,0,0,32,112,240,511] [0,1,2,3,4,5,6,7,8,9] none [] (by kernel_rfl) (by kernel_rfl) ?_;refine z_m ?_;refine z_m ?_;refine ZAE rfl rfl rfl rfl rfl (fun _=>A_ix (k:=i+1) Und.h Tsz.h rfl rfl) ?_;refine z_r ?_;refine z_m ?_;refine z_m ?_;refine ZAE rfl rfl rfl rfl rfl (fun _=>ZIk rfl rfl (by omega) (by omega)) ?_;refine ZAE rfl rfl rfl rfl rfl (fun _=>ZAN (k:=i) Und.h Tsz.h rfl rfl (by omega) (by omega)) ?_;refine z_r ?_;refine ZAE rfl rfl rfl rfl rfl (fun _=>A_tt (show x2≠y2 from hne) (ZJV recK rfl rfl recG rfl rfl)) ?_;refine ZAV (ZAB rfl) nb' ?_;refine zy ?_;refine ZAC rfl rfl rfl rfl (A_ix Und.h Tsz.h rfl rfl) ?_
   refine zy ?_;refine ZAC rfl rfl rfl rfl (A_ix Und.h Tsz.h rfl rfl) ?_;refine zy ?_;refine ZBL rfl Tsz.h rfl rfl hg2 rfl rfl (ZCR (by show 0+q*6+6<=cs.length;rw[hcl];omega)) fun h4 hU=>?_;refine zy ?_;have hlt:(cs.take (q*6)).length=q*6:=by rw[List.length_take,hcl];omega
   rw[Nat.zero_add] at hU;refine⟨i+1+1,(by show S.length-(i+1+1)<S.length-(i+1);omega),rfl,by omega,by omega,hX2.upd hU rfl,⟨_,hU.at',?_,?_,?_⟩,by omega,by omega,rfl,(by rw[hql2];rfl),rfl,rfl,trivial⟩
   ·rw[List.length_append,hlt,List.length_append,List.length_drop,hcl]
    show q*6+(6+(S.length*6-(q*6+6)))=S.length*6
    omega
   ·rw[hql2,hstep,List.flatMap_append,<-hct,<-List.append_assoc]
    refine (List.take_left' ?_).trans ?_
    ·rw[List.length_append,hlt]
     show q*6+6=(q+1)*6
     omega
    ·rw[List.flatMap_singleton];rfl
   ·rw[<-hdr,<-List.append_assoc,List.drop_append,List.drop_eq_nil_of_le (by
     rw[List.length_append,hlt]
     show q*6+6<=(k+(i+1+1))*6
     omega),List.nil_append,List.drop_drop,List.length_append,hlt]
    congr 1
    show q*6+6+((k+(i+1+1))*6-(q*6+6))=_
    omega
 have hk2:k+1+i=S.length:=by omega
 rw[hk2] at hct hq1;have hql3:(cmpG S S.length).length<S.length:=by rw[<-hk2];omega
 generalize hqq:(cmpG S S.length).length=q at *;obtain⟨a3,c3,hfr3,hA3⟩:=ZId (z:=5) (P:=Tryz.prog) (t:=22) (el:=44) (b:=b) (n:=S.length) (k:=q) (sp:=sp) (kj:=.i64) Und.h Tsz.h hsp (by omega);obtain⟨o3,e1,e2⟩:=hfr3 hql3;rw[e2] at e1;subst e1;obtain⟨c4,hc4,hB⟩:=ZS0 (z:=5) (P:=Tryz.prog) (t:=22) (el:=44) (b:=b) (n:=S.length) (k:=q) (sp:=sp) (kj:=.i64) Und.h Tsz.h hsp (by omega);rw[hk2,hqq];refine zy ?_;refine ZAC rfl rfl rfl rfl (hA3 rfl rfl) ?_;refine zy ?_
 refine ZHS rfl rfl rfl (ZL5 rfl rfl rfl rfl (ZMJ (z:=(Value.agg ⟨[str [],i64 0,i64 0,i64 0,str [],str []]⟩)) Und.h Zr.h rfl (ZLh _) (by rcases hsp with rfl|rfl <;> simp) (by omega) hg2 (ZCR (by rw[ZC3,hcl];show q*6+(S.length-q)*6<=S.length*6;omega)))) ?_
 refine zy ?_;refine ZAC rfl rfl rfl rfl (hB rfl rfl) ?_;refine zy ?_;have hX3:Exb (fun c=>c=b) h (h2.set b (.cells (cs.take (q*6)++(rep (S.length-q) ((Value.agg ⟨[str [],i64 0,i64 0,i64 0,str [],str []]⟩)).cells.toList++cs.drop (q*6+(rep (S.length-q) ((Value.agg ⟨[str [],i64 0,i64 0,i64 0,str [],str []]⟩)).cells.toList).length))) 44 op)):=hX2.set _ rfl;refine ZAG (ZAH rfl ⟨hX3.ext hE0 hw0 fun c hc=>by rw[hc];exact hb0,hX3.mono fun c hc=>by rw[hc];rfl,_,c4,rfl,⟨fun i hi=>⟨b,0,sp,rfl,_,?_,rfl⟩,fun e=>by rw[e] at hqq;simp at hqq;omega⟩,(fun e=>nomatch e),fun b1 o1 s1 e=>by cases e;rfl⟩);unfold ZAn
 rw[Heap.get_set_self]
 show cut _ (0+i*6) 6=_
 rw[show 0+i*6=i*6 from Nat.zero_add _];have hi2:i<q:=by rw[<-hqq];exact hi
 have h1:=ZBo (f:=rowW) (k:=6) (P:=cmpG S S.length) hi fun _ _=>rfl;rw[<-hct,ZCo (by rw[List.length_take,hcl];omega)] at h1;rw[ZCo (by rw[List.length_append,List.length_take,hcl];omega),<-h1]
 congr 1
 rw[List.drop_append_of_le_length (by rw[List.length_take,hcl];omega),List.take_append_of_le_length (by rw[List.length_drop,List.length_take,hcl];omega)]
theorem ZPq {α:Type}{lt:α->α->Prop} [DecidableRel lt]{l:List α}{e:α}:e∈ZCg lt l ↔ e∈l:=(List.mergeSort_perm l _).mem_iff
theorem ZQc {α:Type}{lt:α->α->Prop} [DecidableRel lt](hS:ZBH lt)(l:List α):(ZCg lt l).Pairwise fun a b=>¬lt b a:=by
 have:=List.pairwise_mergeSort (le:=fun x y=>!decide (lt y x)) (fun a b c h1 h2=>by
  simp only[Bool.not_eq_true',decide_eq_false_iff_not] at h1 h2 ⊢;intro h
  rcases hS.tri a b with g|g|g
  ·rcases hS.tri b c with k|k|k
   ·exact hS.irr _ (hS.tr (hS.tr g k) h)
   ·subst k;exact h1 h
   ·exact h2 k
  ·subst g;exact h2 h
  ·exact h1 g) (fun a b=>by
  simp only[Bool.or_eq_true,Bool.not_eq_true',decide_eq_false_iff_not]
  by_cases h:lt b a
  ·exact .inr fun g=>hS.irr _ (hS.tr h g)
  ·exact .inl h) l
 exact this.imp fun h=>by simpa using h
theorem ZKV {α:Type} [Inhabited α] [DecidableEq α]{lt:α->α->Prop} [DecidableRel lt](hS:ZBH lt)(l:List α):cmpG (ZCg lt l) (ZCg lt l).length=mrgU lt l:=ZP8 hS (ZQc hS l) fun _=>ZPq
theorem ZI3 {a:Option Addr}{cap:Nat}{l:List WkR}{h:Heap}(hs:SrcK rowW 6 h a l)(hn:a=none->l=[]/\cap=0)(hlen:l.length<1000000) :
  Sv Tryz.prog 86 [.slice a l.length cap,.func (.func 88) ⟨[]⟩ ⟨[]⟩] h (RetP fun r h'=>Ext h h'/\∃a' c',r=.slice a' (mrgU ltW l).length c'/\SrcK rowW 6 h' a' (mrgU ltW l)):=by
 refine ZDM fun hw=>?_;refine ZAF Tryz.func86 rfl (by rw[Tryz.ntmps86];rfl) ?_;show Wc Tryz.prog ⟨86,12,none⟩ _ _ _ _ _;refine zy ?_;refine ZAI rfl rfl rfl rfl rfl Bod.h rfl rfl (ZKD hs hn (by omega)) ?_;rintro v1 h1 ⟨hF1,hE1⟩;refine zy ?_;refine ZAI rfl rfl rfl rfl rfl Bod.h rfl rfl (ZKl hF1 hlen) ?_;rintro _ h2 ⟨rfl,hF2,hX2⟩;have hE2:Ext h h2:=hX2.ext hE1 hw fun c hc=>(hF1.at3' hc).2;refine zy ?_;have hl:=ZFH (lt:=ltW) l;rw[<-hl] at hF2;refine ZAI rfl rfl rfl rfl rfl Bod.h rfl rfl (ZHm hF2 (by rw[hl];omega) hw hE2) ?_;rintro _ h3 ⟨hE3,hX3,a',c',rfl,hs3,-,-⟩;rw[ZKV ZAx] at hs3 ⊢;refine zy ?_;exact ZAG (ZAH rfl ⟨hE3,a',c',rfl,hs3⟩)
theorem ZIp {a:Option Addr}{cap:Nat}{l:List (List UInt8)}{h:Heap}(hs:ZJB str h a l)(hn:a=none->l=[]/\cap=0)(hlen:l.length<1000000) :
  Sv Tryz.prog 109 [.slice a l.length cap,.func (.func 85) ⟨[]⟩ ⟨[]⟩] h (RetP fun r h'=>Ext h h'/\∃a' c',r=.slice a' (mrgU ltB l).length c'/\SrcK encT 1 h' a' (mrgU ltB l)/\∀b o sp,a'=some ⟨b,o,sp⟩->h.nx<=b):=by
 refine ZDM fun hw=>?_;refine ZAF Tryz.func109 rfl (by rw[Tryz.ntmps109];rfl) ?_;show Wc Tryz.prog ⟨109,12,none⟩ _ _ _ _ _;refine zy ?_;refine ZAI rfl rfl rfl rfl rfl Bod.h rfl rfl (ZJP hs hn (by omega)) ?_;rintro v1 h1 ⟨hF1,hE1⟩;refine zy ?_;refine ZAI rfl rfl rfl rfl rfl Bod.h rfl rfl (ZJz hF1 hlen) ?_;rintro _ h2 ⟨rfl,hF2,hX2⟩;have hE2:Ext h h2:=hX2.ext hE1 hw fun c hc=>(hF1.at3' hc).2;refine zy ?_;have hl:=ZFH (lt:=ltB) l;have em:(ZCg ltB l).map str=(ZCg ltB l).flatMap encT:=by
  induction ZCg ltB l with
  | nil=>rfl
  | cons x r ih=>rw[List.map_cons,ih];rfl
 rw[em,<-hl] at hF2;refine ZAI rfl rfl rfl rfl rfl Bod.h rfl rfl (ZHt hF2 (by rw[hl];omega) hw hE2) ?_;rintro _ h3 ⟨hE3,hX3,a',c',rfl,hs3,-,hbk⟩;rw[ZKV ZAK] at hs3 ⊢;refine zy ?_;exact ZAG (ZAH rfl ⟨hE3,a',c',rfl,hs3,fun b o sp e=>(hF1.at3' (hbk b o sp e)).2⟩)
end Go.Dw
namespace Go.Dw
open Go Go.Dx Go.Proofs
set_option maxRecDepth 100000
theorem ZKO {a:Option Addr}{cap:Nat}{l:List Key}{k:Key}{h:Heap}(hI:ZAh 2 (fun _ row x=>row=rowK x) h a l)(hlen:Len l) :
  Sv Tryz.prog 153 [.slice a l.length cap,.agg ⟨rowK k⟩] h (RetP fun v h'=>Ext h h'/\∃z:Int,v=i64 z/\decide (0<=z)=decide (k∈l)):=by
 refine ZAF Tryz.func153 rfl (by rw[Tryz.ntmps153];rfl) ?_;show Wc Tryz.prog ⟨153,19,none⟩ _ _ _ _ _;refine zy ?_;refine ZBp rfl rfl rfl fun h1 hE1 hW1 hg1 hn1=>?_;generalize h.nx=b1 at hg1 ⊢;refine zy ?_;refine ZAP (fun (j:Nat) m ds h'=>ds=[]/\h1=h'/\j<=l.length/\k ∉ l.take j/\AllK m [(0,.slice a l.length cap),(3,.pointer (some ⟨b1,0,none⟩)),(7,i64 l.length),(8,i64 (j:Nat))]) (fun j=>l.length-j) 0 ?_ ?_
 ·exact⟨rfl,rfl,Nat.zero_le _,by simp,rfl,rfl,rfl,rfl,trivial⟩
 rintro j m ds h' ⟨rfl,rfl,hj,hno,hall⟩;refine Wc.le ?_ (Le.kn hall);clear hall;refine zy ?_;refine ZAS rfl rfl rfl rfl (ZAc rfl rfl) (fun hjl=>?_) (fun hjl=>?_);rotate_left
 ·have:j=l.length:=by omega
  subst this;rw[List.take_length] at hno;refine zy ?_;exact ZAG (ZAH rfl ⟨hE1,_,rfl,by rw[decide_eq_false hno];rfl⟩)
 have hj':j<l.length:=by omega
 obtain⟨b,o,oa,rfl,row,hrow0,hx⟩:=hI j hj';have hrow:=hE1.row hrow0;have hx2:row=rowK l[j]:=hx;have hin:=List.getElem_mem hj';have htk:l.take (j+1)=l.take j++[l[j]]:=by rw[List.take_add_one,List.getElem?_eq_getElem hj'];rfl
 clear hx hrow0;generalize l[j]=x at hx2 hin htk;subst hx2;refine zy ?_
 by_cases hq:k=x
 ·refine ZAQ hmix [0,0,0,6,14,31] [0,1,2,3,4,5] none [] (by kernel_rfl) (by kernel_rfl) ?_
  refine z_r ?_;refine z_m ?_;refine z_m ?_;refine ZAE rfl rfl rfl rfl rfl (fun _=>A_ix (k:=j) Und.h Tsz.h rfl rfl) ?_;refine z_r ?_;refine ZAE rfl rfl rfl rfl rfl (fun _=>A_tt hq (ZMD keyK rfl rfl keyG rfl rfl)) ?_;refine ZAV (ZAB rfl) nb' ?_;refine zy ?_;exact ZAG (ZAH rfl ⟨hE1,_,rfl,by rw[decide_eq_true (show k∈l by rw[hq];exact hin),decide_eq_true (show (0:Int)<=(j:Int) by omega)]⟩)
 ·refine ZAQ hmix [0,0,0,6,14,31] [0,1,2,3,4,5] none [] (by kernel_rfl) (by kernel_rfl) ?_
  refine z_r ?_;refine z_m ?_;refine z_m ?_;refine ZAE rfl rfl rfl rfl rfl (fun _=>A_ix (k:=j) Und.h Tsz.h rfl rfl) ?_;refine z_r ?_;refine ZAE rfl rfl rfl rfl rfl (fun _=>A_ff hq (ZMD keyK rfl rfl keyG rfl rfl)) ?_;refine ZAV (ZAB rfl) nb' ?_;refine zy ?_;refine⟨j+1,(by show l.length-(j+1)<l.length-j;omega),rfl,rfl,hj',?_,rfl,rfl,rfl,rfl,trivial⟩;rw[htk,List.mem_append,List.mem_singleton];exact fun e=>e.elim hno hq
theorem ZCc {a:Option Addr}{cap:Nat}{l:List Key}{k:Key}{h:Heap}(hI:ZAh 2 (fun _ row x=>row=rowK x) h a l)(hlen:Len l) :
  Sv Tryz.prog 105 [.slice a l.length cap,.agg ⟨rowK k⟩] h (RetP fun v h'=>v=.bool (decide (k∈l))/\Ext h h'):=by
 refine ZAF Tryz.func105 rfl (by rw[Tryz.ntmps105];rfl) ?_;show Wc Tryz.prog ⟨105,9,none⟩ _ _ _ _ _;refine zy ?_;refine ZBp rfl rfl rfl fun h1 hE1 hW1 hg1 hn1=>?_;refine zy ?_;refine ZAI rfl rfl rfl rfl rfl Bod.h rfl rfl (ZKO (k:=k) (ZAh.ext (fun hr _=>hr) hI hE1) hlen) ?_;rintro _ h2 ⟨hE2,z,rfl,hz⟩;refine zy ?_;refine ZAC rfl rfl rfl rfl (ZNq rfl rfl) ?_;refine zy ?_;exact ZAG (ZAH rfl ⟨by rw[hz];rfl,hE1.trans hE2⟩)
theorem ZKX {a:Option Addr}{cap:Nat}{l:List Int}{k:Int}{h:Heap}(hI:ZAr i64 h a l)(hlen:Len l) :
  Sv Tryz.prog 159 [.slice a l.length cap,i64 k] h (RetP fun v h'=>h'=h/\∃z:Int,v=i64 z/\decide (0<=z)=decide (k∈l)):=by
 refine ZAF Tryz.func159 rfl (by rw[Tryz.ntmps159];rfl) ?_;show Wc Tryz.prog ⟨159,19,none⟩ _ _ _ _ _;refine zy ?_;refine ZAP (fun (j:Nat) m ds h'=>ds=[]/\h=h'/\j<=l.length/\k ∉ l.take j/\AllK m [(0,.slice a l.length cap),(1,i64 k),(7,i64 l.length),(8,i64 (j:Nat))]) (fun j=>l.length-j) 0 ?_ ?_
 ·exact⟨rfl,rfl,Nat.zero_le _,by simp,rfl,rfl,rfl,rfl,trivial⟩
 rintro j m ds h' ⟨rfl,rfl,hj,hno,hall⟩;refine Wc.le ?_ (Le.kn hall);clear hall;refine zy ?_;refine ZAS rfl rfl rfl rfl (ZAc rfl rfl) (fun hjl=>?_) (fun hjl=>?_);rotate_left
 ·have:j=l.length:=by omega
  subst this;rw[List.take_length] at hno;refine zy ?_;exact ZAG (ZAH rfl ⟨rfl,_,rfl,by rw[decide_eq_false hno];rfl⟩)
 have hj':j<l.length:=by omega
 obtain⟨b,o,oa,rfl,hcell⟩:=hI j hj';have hin:=List.getElem_mem hj';have htk:l.take (j+1)=l.take j++[l[j]]:=by rw[List.take_add_one,List.getElem?_eq_getElem hj'];rfl
 generalize l[j]=x at hcell hin htk;refine zy ?_;refine ZAC rfl rfl rfl rfl (A_ix Und.h Tsz.h rfl rfl) ?_;refine zy ?_;refine ZAS rfl rfl rfl rfl (ZBr rfl rfl) (fun hq=>?_) (fun hq=>?_)
 ·refine zy ?_
  exact ZAG (ZAH rfl ⟨rfl,_,rfl,by rw[decide_eq_true (show k∈l by rw[hq];exact hin),decide_eq_true (show (0:Int)<=(j:Int) by omega)]⟩)
 ·refine zy ?_
  refine⟨j+1,(by show l.length-(j+1)<l.length-j;omega),rfl,rfl,hj',?_,rfl,rfl,rfl,rfl,trivial⟩;rw[htk,List.mem_append,List.mem_singleton];exact fun e=>e.elim hno hq
theorem ZD2 {a:Option Addr}{cap:Nat}{l:List Int}{k:Int}{h:Heap}(hI:ZAr i64 h a l)(hlen:Len l) :
  Sv Tryz.prog 111 [.slice a l.length cap,i64 k] h (RetP fun v h'=>v=.bool (decide (k∈l))/\h'=h):=by
 refine ZAF Tryz.func111 rfl (by rw[Tryz.ntmps111];rfl) ?_;show Wc Tryz.prog ⟨111,9,none⟩ _ _ _ _ _;refine zy ?_;refine ZAI rfl rfl rfl rfl rfl Bod.h rfl rfl (ZKX (k:=k) hI hlen) ?_;rintro _ h2 ⟨rfl,z,rfl,hz⟩;refine zy ?_;refine ZAC rfl rfl rfl rfl (ZNq rfl rfl) ?_;refine zy ?_;exact ZAG (ZAH rfl ⟨by rw[hz];rfl,rfl⟩)
end Go.Dw
