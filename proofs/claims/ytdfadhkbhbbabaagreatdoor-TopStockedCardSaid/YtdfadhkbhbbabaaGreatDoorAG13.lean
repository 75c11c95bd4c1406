/- B1: contracts: the library's sorting of records and of strings, by functions that compare. -/
import Derived.Test.YtdfadhkbhbbabaaGreatDoorAG12
import Derived.Test.YtdfadhkbhbbabaaGreatDoorAG2
import Derived.Test.YtdfadhkbhbbabaaGreatDoorAG4
import Derived.Test.YtdfadhkbhbbabaaGreatDoorAG7
set_option linter.unusedVariables false
set_option linter.unusedSimpArgs false
namespace Go.Dw
open Go Go.Dx Go.Proofs Go.Sort Go.RowKit Go.Lib
set_option maxRecDepth 100000
theorem ZJI {P:Program}{g:FuncId}{args:List Value}{v:Value}(hfa:ZBr args=true)(hfv:flat v=true)(hs:∀h,Sv P g args h (RetP fun r h'=>r=v/\Ext h h'))(W:World) :
  Calls P g args.toArray W fun e w'=>e=.returned v/\∃q os,w'=grow (W.drewN q) os:=by
 have hget:∀b,(⟨.e,0,0⟩:Heap).get b=none:=fun b=>by unfold Heap.get;exact ZTT b
 have hr:HR (fun _=>none) ⟨.e,0,0⟩ W.heap :=
  ⟨(fun b o h=>by rw[hget] at h;cases h),(fun b b' o o' bi bi' h=>by rw[hget] at h;cases h),(fun b bi h=>nomatch h),(fun g bi _ h=>nomatch h),Nat.le_refl _⟩
 have hnr:∀c,¬Rg (fun _=>none) (⟨.e,0,0⟩:Heap) c:=by
  rintro c ⟨b,o,bi,h1,_⟩;rw[hget] at h1;cases h1
 refine ((hs ⟨.e,0,0⟩).w (fun _=>none) W args.toArray hr (VRL.of_flat _ hfa)).mono ?_;rintro e w' ⟨r,hR,hP⟩
 cases r with
 | ret u h' =>
  obtain⟨rfl,-⟩:=hR;obtain⟨ι',v',rfl,hv,_,ha⟩:=hP;have e2:=hv.flat_eq hfv;subst e2;refine⟨rfl,w'.drawn-W.drawn,w'.heap.extract W.heap.size w'.heap.size,?_⟩;obtain⟨d1,d2⟩:=ha.dr rfl;have hsz:=ha.sz;have hb:∀k,k<W.heap.size->w'.heap[k]?=W.heap[k]?:=fun k hk=>ha.fr k hk (hnr k);have eo:=ha.os;have eu:=ha.out;obtain⟨heap',tape',drawn',os',output'⟩:=w';simp only at d1 d2 hsz hb eo eu;subst d1 eo eu;have eh:heap'=W.heap++heap'.extract W.heap.size heap'.size:=by
   apply Array.ext_getElem?;intro k
   by_cases hk:k<W.heap.size
   ·rw[Array.getElem?_append_left hk];exact hb k hk
   ·rw[Array.getElem?_append_right (by omega),Array.getElem?_extract]
    by_cases hk2:k<heap'.size
    ·rw[if_pos (by omega)];congr 1;omega
    ·rw[if_neg (by omega),Array.getElem?_eq_none (by omega)]
  have ed:W.drawn+(drawn'-W.drawn)=drawn':=by omega
  unfold grow World.drewN;simp only;rw[ed]
  congr 1
 | pan v h'=>exact hR.elim
 | no=>exact hR.elim
section
variable {α:Type} [Inhabited α]{enc:α->Value}{w:World}{blk n:Nat}{os:Array Obj}{c:Array Value}{el:TypeId}{d:Array α}
theorem ZJ1 (hb:w.heap[blk]?=some (.cells c el (0,0))):w.heap.size<=(grow (putRow enc (Sort.ahead w n) blk 0 d) os).heap.size/\∀k,k<w.heap.size->(grow (putRow enc (Sort.ahead w n) blk 0 d) os).heap[k]?=(w.heap.setIfInBounds blk (.cells (putCells enc 0 d c) el (0,0)))[k]?:=by
 refine⟨by simp,fun k hk=>?_⟩;rw[heap_grow_old _ _ (by simpa using hk)];obtain⟨h1,h2⟩:=Array.getElem?_eq_some_iff.1 hb;rw[Array.getElem?_setIfInBounds]
 by_cases e:blk=k
 ·subst e
  rw[if_pos rfl,if_pos hk];simp[putRow,mapBlock,Sort.ahead,Array.getElem?_modify,onCells,hb]
 ·rw[if_neg e]
  simp[putRow,mapBlock,Sort.ahead,Array.getElem?_modify,e]
theorem ZFt:(putCells enc 0 d c).size=c.size:=by simp[putCells]
theorem ZFd (h:d.size<=c.size):(putCells enc 0 d c).toList.take d.size=d.toList.map enc:=by
 apply List.ext_getElem?;intro j
 by_cases hj:j<d.size
 ·rw[List.getElem?_take_of_lt hj,Array.getElem?_toList]
  simp[putCells,hj,show j<c.size by omega,getElem!_pos d j hj]
 ·rw[List.getElem?_take_eq_none (by omega),List.getElem?_eq_none (by simp;omega)]
theorem ZKB (hb:w.heap[blk]?=some (.cells c el (0,0)))(ht:c.toList.take d.size=d.toList.map enc):Holds enc w blk 0 d:=by
 intro j hj;refine⟨?_,by simp[World.frozen?,hb]⟩;have h1:(c.toList.take d.size)[j]?=(d.toList.map enc)[j]?:=by rw[ht]
 rw[List.getElem?_take_of_lt hj] at h1;simp only[World.cell?,hb,Nat.zero_add];simp only[Option.isSome_none,Bool.false_eq_true,if_false];rw[<-Array.getElem?_toList,h1];simp[hj,getElem!_pos d j hj]
end
def ZC2 {α:Type}(lt:α->α->Prop) [DecidableRel lt](l:List α):List α:=l.mergeSort fun x y=>!decide (lt y x)
theorem ZFa {α:Type}{lt:α->α->Prop} [DecidableRel lt](l:List α):(ZC2 lt l).length=l.length:=List.length_mergeSort ..
theorem ZMk {α:Type}{lt:α->α->Prop} [DecidableRel lt](hS:ZBY lt):SWO (ltOf (cmpI lt)):=by
 have e:∀x y,ltOf (cmpI lt) x y=decide (lt x y):=fun x y=>decide_eq_decide.2 ZJV;refine⟨fun x=>?_,fun x y z h1 h2=>?_,fun x y z h1 h2=>?_⟩
 ·rw[e];exact decide_eq_false (hS.irr x)
 ·rw[e] at h1 h2 ⊢
  exact decide_eq_true (hS.tr (of_decide_eq_true h1) (of_decide_eq_true h2))
 ·rw[e] at h1 h2 ⊢
  have k1:=of_decide_eq_false h1;have k2:=of_decide_eq_false h2;refine decide_eq_false fun h=>?_
  rcases hS.tri x y with g|g|g
  ·exact k1 g
  ·subst g;exact k2 h
  ·exact k2 (hS.tr g h)
theorem ZKs {α:Type}{lt:α->α->Prop} [DecidableRel lt](hS:ZBY lt)(x y:α)(h1:(ltOf (cmpI lt)) x y=false)(h2:(ltOf (cmpI lt)) y x=false):x=y:=by
 have e:∀x y,ltOf (cmpI lt) x y=decide (lt x y):=fun x y=>decide_eq_decide.2 ZJV;rw[e] at h1 h2
 rcases hS.tri x y with g|g|g
 ·exact absurd g (of_decide_eq_false h1)
 ·exact g
 ·exact absurd g (of_decide_eq_false h2)
theorem ZLr {α:Type}{lt:α->α->Prop} [DecidableRel lt](l:List α):(l.mergeSort fun x y=>!(ltOf (cmpI lt)) y x)=ZC2 lt l:=by
 unfold ZC2
 congr 1
 funext x y
 congr 1
 exact decide_eq_decide.2 ZJV
theorem ZIy {α:Type} [Inhabited α]{enc:α->List Value}{k:Nat}(hk0:0<k)(hk:∀x,(enc x).length=k)(d:Array α):(flatK enc k d).toList=d.toList.flatMap enc:=by
 have hlen:∀l:List α,(l.flatMap enc).length=l.length*k:=by
  intro l
  induction l with
  | nil=>simp
  | cons x l ih=>rw[List.flatMap_cons,List.length_append,ih,hk,List.length_cons,Nat.succ_mul];omega
 apply List.ext_getElem?;intro t
 by_cases ht:t<d.size*k
 ·have hi:t / k<d.toList.length:=by rw[Array.length_toList];exact (Nat.div_lt_iff_lt_mul hk0).2 ht
  have h1:=ZCA (f:=enc) (k:=k) (P:=d.toList) hi fun x _=>hk x;have hmod:=Nat.mod_lt t hk0;have hdm:t / k*k+t % k=t:=by rw[Nat.mul_comm];exact Nat.div_add_mod t k
  have hle:t / k*k+k<=d.size*k:=by
   have:(t / k+1)*k<=d.size*k:=Nat.mul_le_mul_right _ (by rw[Array.length_toList] at hi;exact hi);rw[Nat.add_mul,Nat.one_mul] at this;exact this
  rw[ZDQ (by rw[hlen,Array.length_toList];exact hle)] at h1;have h2:((List.drop (t / k*k) (d.toList.flatMap enc)).take k)[t % k]?=(enc d.toList[t / k])[t % k]?:=congrArg (fun l:List Value=>l[t % k]?) (Option.some.inj h1);rw[List.getElem?_take_of_lt hmod,List.getElem?_drop,hdm] at h2;rw[h2,Array.getElem?_toList,Array.getElem?_eq_getElem (by simpa using ht)];have h3:=get_flatK enc k d t ht;rw[getElem!_pos _ t (by simpa using ht)] at h3;rw[h3,getElem!_pos d (t / k) (by rw[Array.length_toList] at hi;exact hi),Array.getElem_toList,List.getElem?_eq_getElem (by rw[hk];exact hmod),getElem!_pos _ _ (by rw[hk];exact hmod)]
 ·rw[List.getElem?_eq_none (by simp;omega),List.getElem?_eq_none (by rw[hlen,Array.length_toList];omega)]
instance:Inhabited WkR:=⟨⟨[],0,0,0,[],[]⟩⟩
theorem ZK6 {α:Type}{lt:α->α->Prop} [DecidableRel lt]:ZC2 lt ([]:List α)=[]:=List.mergeSort_nil
theorem ZCo (l:List WkR):(l.flatMap rowW).length=l.length*6:=by
 induction l with
 | nil=>rfl
 | cons x l ih=>rw[List.flatMap_cons,List.length_append,ih];show 6+l.length*6=(l.length+1)*6;omega
theorem ZGC:∀l:List WkR,ZBr (l.flatMap rowW)=true
 | []=>rfl
 | x::l=>by
  rw[List.flatMap_cons]
  show ZBr (str x.archive::i64 x.number::i64 x.day::i64 x.kind::str x.a::str x.b::l.flatMap rowW)=true
  simp only[ZBr,flat,Bool.true_and];exact ZGC l
theorem ZTj (x y:WkR)(W:World):Calls Tryz.prog 53 #[.agg (rowW x).toArray,.agg (rowW y).toArray] W fun e w'=>e=.returned (.int .i64 (cmpI ltW x y))/\∃q os',w'=grow (W.drewN q) os' :=
 ZJI (args:=[.agg ⟨rowW x⟩,.agg ⟨rowW y⟩]) rfl rfl (fun h=>ZOp x y h) W
theorem ZUS (x y:List UInt8)(W:World):Calls Tryz.prog 35 #[encStr x,encStr y] W fun e w'=>e=.returned (.int .i64 (cmpI ltB x y))/\∃q os',w'=grow (W.drewN q) os' :=
 ZJI (args:=[str x,str y]) rfl rfl (fun h=>(ZFi x y h).grows) W
theorem ZMQ {h0 h:Heap}{v:Value}{P:List WkR}(hF:ZAF h0 h v 45 6 (P.flatMap rowW) P.length)(hn:P.length<1000000) :
  Sv Tryz.prog 93 [v,.func (.func 53) ⟨[]⟩ ⟨[]⟩] h (RetP fun r h'=>r=.tuple ⟨[]⟩/\ZAF h0 h' v 45 6 ((ZC2 ltW P).flatMap rowW) P.length/\Exb (fun c=>ZBM v=some c) h h'):=by
 refine⟨fun ι w args' hr hv=>?_⟩;obtain⟨l',rfl,hv⟩:=hv.arr
 cases hv with
 | cons hv1 hv2 =>
  cases hv2 with
  | cons hv3 hv4 =>
   cases hv4;have e3:=hv3.flat_eq rfl;subst e3
   rcases hF.lies hr hv1 (by decide) with ⟨rfl,rfl,hz,hn0⟩|⟨b,bi,op,cap,c,hb,hg,hi,rfl,hc,hle,hV,hl,hnew⟩
   ·have:P=[]:=List.eq_nil_of_length_eq_zero hn0
    subst this;refine (AnyF.slices_SortFunc_none ZN6 none 0 _ w).mono ?_;rintro e w' ⟨rfl,rfl⟩;exact⟨.ret (.tuple ⟨[]⟩) h,⟨rfl,by rw[ZK6];exact ZAF.nil _ _ _ _,Exb.refl _ _⟩,ZDe hr (VR.of_flat ι rfl) ⟨⟨Nat.le_refl _,fun _ _=>rfl,rfl,rfl⟩,rfl,Nat.le_refl _⟩⟩
   ·have hcz:=hV.flat_eq (ZGC P)
    rw[ZCo] at hle hcz;have hfl:(flatK rowW 6 P.toArray).toList=c.toList.take (P.length*6):=by rw[ZIy (enc:=rowW) (k:=6) (by decide) (fun _=>rfl),hcz]
    have hH:HoldsK rowW 6 w bi.blk 0 P.toArray:=ZKB (enc:=id) hc (by rw[size_flatK,List.size_toArray,hfl,List.map_id]);obtain⟨hbs,-⟩:=Array.getElem?_eq_some_iff.1 hc
    have hK:=AnyQ.slices_SortFunc_total ZN6 6 Tryz.isAgg45 Tryz.sizeOf45 rowW (fun _=>rfl) (fun x v hv=>by
     simp only[rowW,List.mem_cons,List.not_mem_nil,or_false] at hv
     rcases hv with rfl|rfl|rfl|rfl|rfl|rfl <;> rfl) (cmpI ltW) (ZMk ZA0) 53 #[] bi.blk 0 cap P.toArray w (enters_of Tryz.func53 (by kernel_rfl) rfl) (fun _ _ _ _ x y=>ZTj x y _) hH hbs (by simp;omega) (ZKs ZA0)
    rw[List.size_toArray] at hK;refine hK.mono ?_;rintro e w' ⟨rfl,k,os,rfl⟩;have es:(P.toArray.toList.mergeSort fun x y=>!(ltOf (cmpI ltW)) y x)=ZC2 ltW P:=ZLr P;rw[es];have hsl:=ZFa (lt:=ltW) P;have hfs:(flatK rowW 6 (ZC2 ltW P).toArray).size=P.length*6:=by rw[size_flatK,List.size_toArray,hsl]
    have hP:=ZK4 (h:=h) (vs2:=(ZC2 ltW P).flatMap rowW) (c2:=putCells id 0 (flatK rowW 6 (ZC2 ltW P).toArray) c) (r:=.tuple ⟨[]⟩) (r':=.tuple ⟨[]⟩) hr hg hi hc ZFt (by rw[ZCo,ZCo,hsl]) (by
     have:=ZFd (enc:=id) (d:=flatK rowW 6 (ZC2 ltW P).toArray) (c:=c) (by rw[hfs];exact hle);rw[hfs,List.map_id,ZIy (enc:=rowW) (k:=6) (by decide) (fun _=>rfl)] at this;rw[ZCo,hsl,this];exact VRL.of_flat ι (ZGC _)) (VR.of_flat ι rfl) (ZJ1 (enc:=id) (d:=flatK rowW 6 (ZC2 ltW P).toArray) (n:=k) (os:=os) hc).1 (ZJ1 hc).2 rfl rfl
    refine⟨.ret (.tuple ⟨[]⟩) (h.set b (.cells ((ZC2 ltW P).flatMap rowW) 45 op)),⟨rfl,hnew _ _ op (by rw[ZCo,ZCo,hsl]) (Upd.mk' h b _).at',?_⟩,hP⟩;refine (Exb.ofUpd (Upd.mk' h b _)).mono fun x hx=>by rw[hx];exact hb
theorem ZFP:∀l:List (List UInt8),ZBr (l.map str)=true
 | []=>rfl
 | _::l=>ZFP l
theorem ZLV {ι:Iota}{h0 h:Heap}{w w':World}{v:Value}{zs:List (List UInt8)}{b n k:Nat}{os:Array Obj}{bi:BI}{op:Bool}{c:Array Value}(S:List (List UInt8))(hsl:S.length=zs.length)(hr:HR ι h w.heap)
  (hb:ZBM v=some b) (hg:h.get b=some (.cells (zs.map str) 9 op)) (hi:ι b=some bi) (hc:w.heap[bi.blk]?=some (.cells c 9 (0,0))) (hle:zs.length<=c.size)
  (hnew:∀(h':Heap) (cs':List Value) (op':Bool),cs'.length=(zs.map str).length->h'.get b=some (.cells cs' 9 op')->ZAF h0 h' v 9 1 cs' n) (hw:w'=grow (putRow encStr (Sort.ahead w k) bi.blk 0 S.toArray) os) :
  ∃r,(∃h',r=.ret (.tuple ⟨[]⟩) h'/\ZAF h0 h' v 9 1 (S.map str) n/\Exb (fun c=>ZBM v=some c) h h')/\ZFA ι h w r (.returned (.tuple #[])) w':=by
 subst hw;have hts:S.toArray.size<=c.size:=by simp[hsl];omega
 have hP:=ZK4 (h:=h) (vs2:=S.map str) (c2:=putCells encStr 0 S.toArray c) (r:=.tuple ⟨[]⟩) (r':=.tuple ⟨[]⟩) hr hg hi hc ZFt (by simp[hsl]) (by
  have:=ZFd (enc:=encStr) hts;rw[List.length_map];simp only[List.size_toArray] at this;rw[this];exact VRL.of_flat ι (ZFP _)) (VR.of_flat ι rfl) (ZJ1 (n:=k) (os:=os) hc).1 (ZJ1 hc).2 rfl rfl
 refine⟨_,⟨_,rfl,hnew _ _ op (by simp[hsl]) (Upd.mk' h b _).at',?_⟩,hP⟩;refine (Exb.ofUpd (Upd.mk' h b _)).mono fun x hx=>by rw[hx];exact hb
theorem ZLa {h0 h:Heap}{v:Value}{zs:List (List UInt8)}{n:Nat}(hF:ZAF h0 h v 9 1 (zs.map str) n)(hn:n<1000000) :
  Sv Tryz.prog 133 [v,.func (.func 35) ⟨[]⟩ ⟨[]⟩] h (RetP fun r h'=>r=.tuple ⟨[]⟩/\ZAF h0 h' v 9 1 ((ZC2 ltB zs).map str) n/\Exb (fun c=>ZBM v=some c) h h'):=by
 refine⟨fun ι w args' hr hv=>?_⟩;obtain⟨l',rfl,hv⟩:=hv.arr
 cases hv with
 | cons hv1 hv2 =>
  cases hv2 with
  | cons hv3 hv4 =>
   cases hv4;have e3:=hv3.flat_eq rfl;subst e3
   rcases hF.lies hr hv1 (by decide) with ⟨rfl,rfl,hz,rfl⟩|⟨b,bi,op,cap,c,hb,hg,hi,rfl,hc,hle,hV,hl,hnew⟩
   ·have:zs=[]:=List.map_eq_nil_iff.1 hz
    subst this
    refine (AnyF.slices_SortFunc_none { ZNZ with } none 0 _ w).mono ?_
    rintro e w' ⟨rfl,rfl⟩;exact⟨.ret (.tuple ⟨[]⟩) h,⟨rfl,by rw[ZK6];exact ZAF.nil _ _ _ _,Exb.refl _ _⟩,ZDe hr (VR.of_flat ι rfl) ⟨⟨Nat.le_refl _,fun _ _=>rfl,rfl,rfl⟩,rfl,Nat.le_refl _⟩⟩
   ·have hlz:zs.length=n:=by rw[List.length_map] at hl;omega
    have hcz:=hV.flat_eq (ZFP zs);rw[List.length_map] at hcz hle;have hH:Holds encStr w bi.blk 0 zs.toArray:=ZKB (enc:=encStr) hc (by simpa using hcz);obtain⟨hbs,-⟩:=Array.getElem?_eq_some_iff.1 hc;have hK:=Any.slices_SortFunc_total ZNZ encStr (fun _=>rfl) (cmpI ltB) (ZMk ZAR) 35 #[] bi.blk 0 cap zs.toArray w (enters_of Tryz.func35 (by kernel_rfl) rfl) (fun _ _ _ _ x y=>ZUS x y _) hH hbs (by simp;omega) (ZKs ZAR);rw[List.size_toArray,hlz] at hK;refine hK.mono ?_;rintro e w' ⟨rfl,k,os,hw⟩;have es:(zs.toArray.toList.mergeSort fun x y=>!(ltOf (cmpI ltB)) y x)=ZC2 ltB zs:=ZLr zs;rw[es] at hw;obtain⟨r,⟨h',rfl,hp1,hp2⟩,hP⟩:=ZLV (ZC2 ltB zs) (ZFa zs) hr hb hg hi hc hle hnew hw
    exact⟨.ret (.tuple ⟨[]⟩) h',⟨rfl,hp1,hp2⟩,hP⟩
theorem ZHT {h0 h:Heap}{v:Value}{zs:List (List UInt8)}{n:Nat}(hF:ZAF h0 h v 9 1 (zs.map str) n)(hn:n<1000000) :
  Sv Tryz.prog 39 [v] h (RetP fun r h'=>r=.tuple ⟨[]⟩/\ZAF h0 h' v 9 1 ((zs.mergeSort fun x y=>decide (x<=y)).map str) n/\Exb (fun c=>ZBM v=some c) h h'):=by
 refine⟨fun ι w args' hr hv=>?_⟩;obtain⟨l',rfl,hv⟩:=hv.arr
 cases hv with
 | cons hv1 hv2 =>
  cases hv2
  rcases hF.lies hr hv1 (by decide) with ⟨rfl,rfl,hz,rfl⟩|⟨b,bi,op,cap,c,hb,hg,hi,rfl,hc,hle,hV,hl,hnew⟩
  ·have:zs=[]:=List.map_eq_nil_iff.1 hz
   subst this;refine (AnyM.slices_Sort_string_none ZNb none 0 w).mono ?_;rintro e w' ⟨rfl,rfl⟩;exact⟨.ret (.tuple ⟨[]⟩) h,⟨rfl,by rw[List.mergeSort_nil];exact ZAF.nil _ _ _ _,Exb.refl _ _⟩,ZDe hr (VR.of_flat ι rfl) ⟨⟨Nat.le_refl _,fun _ _=>rfl,rfl,rfl⟩,rfl,Nat.le_refl _⟩⟩
  ·have hlz:zs.length=n:=by rw[List.length_map] at hl;omega
   have hcz:=hV.flat_eq (ZFP zs);rw[List.length_map] at hcz hle;have hH:Holds encStr w bi.blk 0 zs.toArray:=ZKB (enc:=encStr) hc (by simpa using hcz);obtain⟨hbs,-⟩:=Array.getElem?_eq_some_iff.1 hc;have hK:=AnyM.slices_Sort_string ZNb bi.blk 0 cap zs w hH hbs (by omega);rw[hlz] at hK;refine hK.mono ?_;rintro e w' ⟨rfl,k,os,hw⟩;obtain⟨r,⟨h',rfl,hp1,hp2⟩,hP⟩:=ZLV (zs.mergeSort fun x y=>decide (x<=y)) (List.length_mergeSort ..) hr hb hg hi hc hle hnew hw;exact⟨.ret (.tuple ⟨[]⟩) h',⟨rfl,hp1,hp2⟩,hP⟩
end Go.Dw
namespace Go.Dw
open Go Go.Dx Go.Proofs Go.Sort
set_option maxRecDepth 100000
def SrcK {α:Type}(enc:α->List Value)(k:Nat)(h:Heap)(a:Option Addr)(l:List α):Prop:=ZBO k (fun _ row x=>row=enc x) h a l/\(l=[]->a=none\/(∃b o,a=some ⟨b,o,some 0⟩)\/∃b o oa,a=some ⟨b,o,oa⟩/\ZAw h b o 0=some [])
theorem SrcK.ext {α:Type}{enc:α->List Value}{k:Nat}{h h':Heap}{a:Option Addr}{l:List α}(hl:SrcK enc k h a l)(he:Ext h h'):SrcK enc k h' a l :=
 ⟨ZBO.ext (fun hr _=>hr) hl.1 he,fun hn=>(hl.2 hn).imp id fun hx=>hx.imp id fun ⟨b,o,oa,h1,h2⟩=>⟨b,o,oa,h1,he.row h2⟩⟩
theorem ZBe {α:Type}{enc:α->List Value}{k:Nat}(hk:∀x,(enc x).length=k)(l:List α):(l.flatMap enc).length=l.length*k:=by
 induction l with
 | nil=>simp
 | cons x l ih=>rw[List.flatMap_cons,List.length_append,ih,hk,List.length_cons,Nat.succ_mul];omega
theorem ZH9 {α:Type}{enc:α->List Value}{k:Nat}(hk:∀x,(enc x).length=k){l:List α}{i j:Nat}(hi:i<l.length)(hj:j<k):(l.flatMap enc)[i*k+j]?=(enc l[i])[j]?:=by
 have h1:=ZCA (f:=enc) (k:=k) (P:=l) hi fun x _=>hk x;have hle:i*k+k<=l.length*k:=by
  have:(i+1)*k<=l.length*k:=Nat.mul_le_mul_right _ hi;rw[Nat.add_mul,Nat.one_mul] at this;exact this
 rw[ZDQ (by rw[ZBe hk];exact hle)] at h1;have h2:((List.drop (i*k) (l.flatMap enc)).take k)[j]?=(enc l[i])[j]?:=congrArg (fun l:List Value=>l[j]?) (Option.some.inj h1);rw[List.getElem?_take_of_lt hj,List.getElem?_drop] at h2;exact h2
theorem SrcK.row {α:Type}{enc:α->List Value}{k:Nat}(hk0:0<k)(hk:∀x,(enc x).length=k){h:Heap}{b o:Nat}{oa:Option Nat}{l:List α}(hl:ZBO k (fun _ row x=>row=enc x) h (some ⟨b,o,oa⟩) l)(hne:0<l.length):ZAw h b o (l.length*k)=some (l.flatMap enc):=by
 have hfl:=ZBe hk l
 have:=ZEQ (h:=h) (b:=b) (o:=o) (l:=l.flatMap enc) (by rw[hfl];exact Nat.mul_pos hne hk0) (fun t ht=>by
  rw[hfl] at ht;have hi:t / k<l.length:=(Nat.div_lt_iff_lt_mul hk0).2 ht;have hmod:=Nat.mod_lt t hk0;have hdm:t / k*k+t % k=t:=by rw[Nat.mul_comm];exact Nat.div_add_mod t k
  obtain⟨b',o',oa',e,row,hrow,hR⟩:=hl (t / k) hi;cases e;have hR':row=enc l[t / k]:=hR;subst hR';have hg:=ZH9 hk hi hmod;rw[hdm] at hg;have hlt:t<(l.flatMap enc).length:=by rw[hfl];exact ht
  have:=ZAK (k:=t % k) (v:=(l.flatMap enc)[t]) hrow (by rw[ZAv,<-hg,List.getElem?_eq_getElem hlt]);rw[Nat.add_assoc,hdm] at this;exact this)
 rwa [hfl] at this
theorem SrcK.src {P:Program} {α:Type}{enc:α->List Value}{k:Nat}(hk0:0<k)(hk:∀x,(enc x).length=k){h:Heap}{a:Option Addr}{l:List α}{cap:Nat}{el tX:TypeId}{dd:TypeDesc}(hl:SrcK enc k h a l)(hX:P.underlying tX=some dd)(hni:∀k,dd≠.int k):asrc P el k tX (.slice a l.length cap) h=some (l.length,l.flatMap enc):=by
 cases l with
 | nil =>
  rcases hl.2 rfl with rfl|⟨b,o,rfl⟩|⟨b,o,oa,rfl,h2⟩
  ·unfold asrc
   rw[hX];cases dd <;> first|rfl|exact absurd rfl (hni _)
  ·unfold asrc
   rw[hX];cases dd <;> first|rfl|exact absurd rfl (hni _)
  ·exact ZAs hX hni (by rw[List.length_nil,Nat.zero_mul];exact h2)
 | cons x l =>
  obtain⟨b,o,oa,rfl,_⟩:=hl.1 0 (by simp);exact ZAs hX hni (SrcK.row hk0 hk hl.1 (by simp))
theorem ZAF.rowsAt {α:Type}{enc:α->List Value}{k:Nat}(hk:∀x,(enc x).length=k){h0 h:Heap}{v:Value}{el:TypeId}{l:List α}{n:Nat}(ho:ZAF h0 h v el k (l.flatMap enc) n)(hn:n=l.length):∃a,v=.slice a l.length l.length/\SrcK enc k h a l/\(a=none->l=[]):=by
 subst hn
 rcases ho with ⟨rfl,e,e2⟩|⟨b,sp,op,rfl,hg,hl,_,_⟩
 ·have:l=[]:=List.eq_nil_of_length_eq_zero e2
  subst this;exact⟨none,rfl,⟨fun i hi=>absurd hi (Nat.not_lt_zero _),fun _=>.inl rfl⟩,fun _=>rfl⟩
 ·refine⟨_,rfl,⟨fun i hi=>⟨b,0,sp,rfl,enc l[i],?_,rfl⟩,fun e=>.inr (.inr ⟨b,0,sp,rfl,?_⟩)⟩,fun e=>nomatch e⟩
  ·unfold ZAw
   rw[hg];simp only;rw[Nat.zero_add];exact ZCA hi fun x _=>hk x
  ·unfold ZAw
   rw[hg];simp only[cut]
   rfl
theorem ZK7 {P:Program}{t el:TypeId}(hu:P.underlying t=some (.slice el))(n:Nat)(w:World):(Op.equalIn (n+1) t (.slice none 0 0) (.slice none 0 0)).run P w=.ok true w:=by
 simp only[Op.equalIn,Sem.run_bind,run_underlying hu,Result.andThen_ok,Sem.run_pure]
 rfl
section
variable {P:Program}{m:Mem}{h:Heap}{d:Option Tmp}{ty:TypeId}{pos:String}{af:Array Edge}{gu:Option (Nat×Bool)}{t tz el:TypeId}{x y:Operand}
theorem ZN9 (hu:P.underlying t=some (.slice el))(hx:opk h m x=some (.slice none 0 0))(hy:opk h m y=some (.slice none 0 0)):Aop P ⟨d,.binOp .eql t x y tz,ty,pos,af,gu⟩ m h (.bool true) h :=
 ZCm hx hy rfl rfl rfl fun w=>by
  have h2:(eqGuard .eql t x y (.slice none 0 0) (.slice none 0 0)).run P w=.ok () w:=rfl;simp only[Sem.run_bind,h2,Result.andThen_ok]
  show (do pure (.bool (<-Op.equalIn (9999+1) t (.slice none 0 0) (.slice none 0 0))):Sem Value).run P w=_
  simp only[Sem.run_bind,ZK7 hu,Result.andThen_ok,Sem.run_pure]
theorem ZNO {a:Addr}{n c:Nat}(hu:P.underlying t=some (.slice el))(hx:opk h m x=some (.slice (some a) n c))(hy:opk h m y=some (.slice none 0 0)):Aop P ⟨d,.binOp .eql t x y tz,ty,pos,af,gu⟩ m h (.bool false) h :=
 ZAe fun e hs=>by
  show pBin P _ h e .eql t x y=_
  unfold pBin;simp only[ZAM hs hx,ZAM hs hy];have:ZF9 P .eql t (.slice (some a) n c) (.slice none 0 0)=some (.bool false):=by
   unfold ZF9;rw[hu]
   rfl
  simp only[this]
end
theorem ZPX (l:List WkR):allOne (l.flatMap rowW)=true:=by
 induction l with
 | nil=>rfl
 | cons x l ih=>rw[List.flatMap_cons];exact ih
theorem ZSj (l:List (List UInt8)):allOne (l.map str)=true:=by
 unfold allOne;rw[List.all_map];exact List.all_eq_true.2 fun _ _=>rfl
theorem ZLe {a:Option Addr}{cap:Nat}{l:List WkR}{h:Heap}(hs:SrcK rowW 6 h a l)(hn:a=none->l=[]/\cap=0)(hlen:l.length<=1000000) :
  Sv Tryz.prog 92 [.slice a l.length cap] h (RetP fun v' h'=>ZAF h h' v' 45 6 (l.flatMap rowW) l.length/\Ext h h'):=by
 refine ZA5 fun hw=>?_;refine ZAG Tryz.func92 rfl (by rw[Tryz.ntmps92];rfl) ?_;show Wc Tryz.prog ⟨92,8,none⟩ _ _ _ _ _;refine zy ?_
 cases a with
 | none =>
  obtain⟨rfl,rfl⟩:=hn rfl;refine zD (ZN9 Und.h rfl rfl) ?_;exact ZAC (ZAD rfl ⟨ZAF.nil _ _ _ _,Ext.refl _⟩)
 | some a =>
  refine zD (ZNO Und.h rfl rfl) ?_;refine ZBg rfl rfl Und.h Tsz.h Zr.h rfl rfl rfl rfl rfl fun h1' hE1 hW1 hg1 hx1=>?_;refine zy ?_;refine ZGV (k:=l.length) (n:=0) (l:=l.flatMap rowW) hw hE1 rfl rfl rfl rfl rfl Und.h inferInstance rfl rfl (ZAF.lit (n:=0) (sz:=6) (cs:=[]) hg1 rfl (Nat.le_refl _)) (SrcK.src (enc:=rowW) (k:=6) (dd:=.slice 45) (by decide) (fun _=>rfl) (hs.ext hE1) Und.h (by intro k;simp)) (ZCo l) (ZPX l) (by omega) (by omega) fun v2 h2 hF2 hE2 _ _ _=>?_;refine zy ?_;refine ZAC (ZAD rfl ⟨?_,hE2⟩);rw[List.nil_append,Nat.zero_add] at hF2;exact hF2
theorem ZLc {a:Option Addr}{cap:Nat}{l:List (List UInt8)}{h:Heap}(hs:ZJb str h a l)(hn:a=none->l=[]/\cap=0)(hlen:l.length<=1000000) :
  Sv Tryz.prog 132 [.slice a l.length cap] h (RetP fun v' h'=>ZAF h h' v' 9 1 (l.map str) l.length/\Ext h h'):=by
 refine ZA5 fun hw=>?_;refine ZAG Tryz.func132 rfl (by rw[Tryz.ntmps132];rfl) ?_;show Wc Tryz.prog ⟨132,8,none⟩ _ _ _ _ _;refine zy ?_
 cases a with
 | none =>
  obtain⟨rfl,rfl⟩:=hn rfl;refine zD (ZN9 Und.h rfl rfl) ?_;exact ZAC (ZAD rfl ⟨ZAF.nil _ _ _ _,Ext.refl _⟩)
 | some a =>
  refine zD (ZNO Und.h rfl rfl) ?_;refine ZBg rfl rfl Und.h Tsz.h Zr.h rfl rfl rfl rfl rfl fun h1' hE1 hW1 hg1 hx1=>?_;refine zy ?_;refine ZGV (k:=l.length) (n:=0) (l:=l.map str) hw hE1 rfl rfl rfl rfl rfl Und.h inferInstance rfl rfl (ZAF.lit (n:=0) (sz:=1) (cs:=[]) hg1 rfl (Nat.le_refl _)) ((hs.ext hE1).src (dd:=.slice 9) Und.h (by intro k;simp)) (by rw[List.length_map];omega) (ZSj l) (by omega) (by omega) fun v2 h2 hF2 hE2 _ _ _=>?_;refine zy ?_;refine ZAC (ZAD rfl ⟨?_,hE2⟩);rw[List.nil_append,Nat.zero_add] at hF2;exact hF2
abbrev xB40:List Nat:=[0,0,3,7,0,0,32,112,240,511]
abbrev xB41:List Nat:=[0,1,2,3,4,5,6,7,8,9]
theorem ZJA (a b:List UInt8):((⟨⟨a⟩⟩:ByteArray) == ⟨⟨b⟩⟩)=decide (a=b):=by
 have:((⟨⟨a⟩⟩:ByteArray) == ⟨⟨b⟩⟩)=((⟨a⟩:Array UInt8) == ⟨b⟩):=rfl;rw[this,Bool.eq_iff_iff];simp
noncomputable def strK:KeyK Tryz.prog 9 (List UInt8) where
 enc:=str
 ks:=.basic .string
 hks:=by kernel_rfl
 flat:=fun _=>rfl
 ok:=fun _=>rfl
 eq:=fun a b=>by
  show Instr.sameNow .string (str a) (str b)=_
  simp[Instr.sameNow,ZJA]
 same:=fun a=>by simp[Instr.sameBits,ZJA]
abbrev encT:List UInt8->List Value:=fun x=>[str x]
theorem ZMv (n:Nat):allOne (rep n [str []])=true:=by
 induction n with
 | zero=>rfl
 | succ n ih =>
  rw[ZFY]
  show allOne (str []::rep n [str []])=true
  simp only[allOne,List.all_cons] at ih ⊢;rw[ih];rfl
set_option maxHeartbeats 8000000 in
theorem ZIZ {h0 h:Heap}{v:Value}{S:List (List UInt8)}(hF:ZAF h0 h v 9 1 (S.flatMap encT) S.length)(hlen:S.length<=1000000)(hw0:WF h0)(hE0:Ext h0 h) :
  Sv Tryz.prog 134 [v] h (RetP fun r h'=>Ext h0 h'/\Exb (fun c=>ZBM v=some c) h h'/\∃a cap,r=.slice a (cmpG S S.length).length cap/\SrcK encT 1 h' a (cmpG S S.length)/\(a=none->cmpG S S.length=[]/\cap=0)/\∀b o sp,a=some ⟨b,o,sp⟩->ZBM v=some b):=by
 obtain⟨a0,e0,hI0,hn0⟩:=ZAF.rowsAt (enc:=encT) (k:=1) (fun _=>rfl) hF rfl
 by_cases hS2:S.length<2
 ·have hall:cmpG S S.length=S:=by
   rw[ZEg (Nat.le_refl _) fun i hi=>decide_eq_true (Or.inl (by omega)),List.take_length]
  rw[hall];subst e0;refine ZAG Tryz.func134 rfl (by rw[Tryz.ntmps134];rfl) ?_;show Wc Tryz.prog ⟨134,61,none⟩ _ _ _ _ _;refine zy ?_;refine zD (A_tt (show (S.length:Int)<2 by omega) (ZAU rfl rfl)) ?_;exact ZAC (ZAD rfl ⟨hE0,Exb.refl _ _,_,_,rfl,hI0,fun e=>⟨hn0 e,by rw[hn0 e];rfl⟩,fun b o sp e=>by rw[e];rfl⟩)
 rcases hF with ⟨-,-,hz⟩|⟨b,sp,op,rfl,hg,-,hb0,hsp⟩
 ·omega
 clear e0 hI0 hn0;have hfl:∀l:List (List UInt8),(l.flatMap encT).length=l.length*1:=fun l=>ZBe (enc:=encT) (k:=1) (fun _=>rfl) l
 have hI:∀i (hi:i<S.length),ZAw h b (i*1) 1=some (encT S[i]):=fun i hi=>by
  unfold ZAw;rw[hg];exact ZCA hi fun _ _=>rfl
 have hSr:ZBO 1 (fun _ row x=>row=encT x) h (some ⟨b,0,sp⟩) S:=fun i hi=>⟨b,0,sp,rfl,encT S[i],by rw[Nat.zero_add];exact hI i hi,rfl⟩;refine ZAG Tryz.func134 rfl (by rw[Tryz.ntmps134];rfl) ?_;show Wc Tryz.prog ⟨134,61,none⟩ _ _ _ _ _;refine zy ?_;refine zD (A_ff (show ¬(S.length:Int)<2 by omega) (ZAU rfl rfl)) ?_;refine ZAN (fun (j:Nat) m ds h'=>ds=[]/\1<=j/\j<=S.length/\h'=h/\(∀i,i<j->anew S i=true)/\AllK m [(0,.slice (some ⟨b,0,sp⟩) S.length S.length),(3,i64 (j:Nat))]) (fun j=>S.length-j) 1 ?_ ?_
 ·exact⟨rfl,Nat.le_refl _,by omega,rfl,(fun i hi=>decide_eq_true (Or.inl (by omega))),rfl,rfl,trivial⟩
 rintro j m ds h1 ⟨rfl,hj1,hj,e1,hnew,hall⟩;subst h1;refine Wc.le ?_ (Le.kn hall);refine zy ?_;refine zC (ZAU rfl rfl) (fun hjl=>?_) (fun hjl=>?_);rotate_left
 ·have hk2:j=S.length:=by omega
  subst hk2;have hall:cmpG S S.length=S:=by rw[ZEg (Nat.le_refl _) hnew,List.take_length]
  rw[hall];refine zy ?_;exact ZAC (ZAD rfl ⟨hE0,Exb.refl _ _,_,_,rfl,⟨hSr,fun e=>by rw[e] at hS2;simp at hS2⟩,(fun e=>nomatch e),fun b1 o1 s1 e=>by cases e;rfl⟩)
 have hj':j<S.length:=by omega
 obtain⟨k,rfl⟩:∃k,j=k+1:=⟨j-1,by omega⟩;have hk':k<S.length:=by omega
 have hc1:ZAw h b (0+(k+1)*1) 1=some (encT S[k+1]):=by rw[Nat.zero_add];exact hI _ hj'
 have hc2:ZAw h b (0+k*1) 1=some (encT S[k]):=by rw[Nat.zero_add];exact hI _ hk'
 have hnj:anew S (k+1)=decide (¬S[k+1]=S[k]):=by
  unfold anew;rw[ZBd hj',show k+1-1=k from rfl,ZBd hk'];simp
 refine zy ?_
 by_cases heq:S[k+1]=S[k]
 rotate_left
 ·have hnj2:anew S (k+1)=true:=by rw[hnj];exact decide_eq_true heq
  generalize S[k+1]=x at *;generalize S[k]=y at *;have hd1:=ZAK (k:=0) hc1 rfl;have hd2:=ZAK (k:=0) hc2 rfl;rw[Nat.add_zero] at hd1 hd2;refine ZAL hmix xB40 xB41 none [] (by kernel_rfl) (by kernel_rfl) ?_;refine z_m ?_;refine z_m ?_;refine ZAB rfl rfl rfl rfl rfl (fun _=>A_ix (k:=k+1) Und.h Tsz.h rfl rfl) ?_;refine z_l ?_;refine z_m ?_;refine z_m ?_;refine ZAB rfl rfl rfl rfl rfl (fun _=>ZJs rfl rfl (by omega) (by omega)) ?_;refine ZAB rfl rfl rfl rfl rfl (fun _=>ZAE (k:=k) Und.h Tsz.h rfl rfl (by omega) (by omega)) ?_;refine z_l ?_;refine ZAB rfl rfl rfl rfl rfl (fun _=>A_ff heq (ZBB rfl rfl)) ?_
  refine ZAO (ZAA rfl) nb' ?_;refine zy ?_;refine⟨k+1+1,(by show S.length-(k+1+1)<S.length-(k+1);omega),rfl,by omega,by omega,rfl,fun i hi=>?_,rfl,rfl,trivial⟩
  rcases Nat.lt_or_ge i (k+1) with q|q
  ·exact hnew i q
  ·have:i=k+1:=by omega
   rw[this];exact hnj2
 have hnj2:anew S (k+1)=false:=by rw[hnj];exact decide_eq_false (fun q=>q heq)
 obtain⟨a2,c2,hfr,hA⟩:=ZJ5 (z:=0) (P:=Tryz.prog) (t:=54) (el:=9) (b:=b) (n:=S.length) (k:=k+1) (sp:=sp) (kj:=.i64) Und.h Tsz.h hsp (by omega);obtain⟨o1,e1,e2⟩:=hfr hj';rw[e2] at e1;subst e1;have hcm0:cmpG S (k+1)=S.take (k+1):=ZEg (by omega) hnew;have hcl0:(cmpG S (k+1+1)).length=k+1:=by rw[ZB8,if_neg (by rw[hnj2];simp),hcm0,List.length_take];omega
 generalize hx:S[k+1]=x at *;generalize hy:S[k]=y at *;have hd1:=ZAK (k:=0) hc1 rfl;have hd2:=ZAK (k:=0) hc2 rfl;rw[Nat.add_zero] at hd1 hd2;refine ZAL hmix xB40 xB41 none [] (by kernel_rfl) (by kernel_rfl) ?_;refine z_m ?_;refine z_m ?_;refine ZAB rfl rfl rfl rfl rfl (fun _=>A_ix (k:=k+1) Und.h Tsz.h rfl rfl) ?_;refine z_l ?_;refine z_m ?_;refine z_m ?_;refine ZAB rfl rfl rfl rfl rfl (fun _=>ZJs rfl rfl (by omega) (by omega)) ?_;refine ZAB rfl rfl rfl rfl rfl (fun _=>ZAE (k:=k) Und.h Tsz.h rfl rfl (by omega) (by omega)) ?_;refine z_l ?_;refine ZAB rfl rfl rfl rfl rfl (fun _=>A_tt heq (ZBB rfl rfl)) ?_
 refine ZAO (ZAA rfl) nb' ?_;refine zy ?_;refine zD (hA rfl rfl) ?_
 refine ZAN (fun (i:Nat) m ds h'=>ds=[]/\1<=i/\i<=S.length-(k+1)/\Exb (fun c=>c=b) h h'/\(∃cs:List Value,h'.get b=some (.cells cs 9 op)/\cs.length=S.length*1/\cs.take ((cmpG S (k+1+i)).length*1)=(cmpG S (k+1+i)).flatMap encT/\cs.drop ((k+i)*1)=(S.flatMap encT).drop ((k+i)*1))/\(cmpG S (k+1+i)).length<=k+i/\1<=(cmpG S (k+1+i)).length ∧
   AllK m [(0,.slice (some ⟨b,0,sp⟩) S.length S.length),(3,i64 ((cmpG S (k+1+i)).length:Nat)),(4,.slice (some ⟨b,(k+1)*1,sp⟩) (S.length-(k+1)) c2),(5,i64 (i:Nat))]) (fun i=>S.length-i) 1 ?_ ?_
 ·refine⟨rfl,Nat.le_refl _,by omega,Exb.refl _ _,⟨_,hg,by rw[hfl],?_,rfl⟩,by omega,by omega,rfl,(by rw[hcl0];rfl),rfl,rfl,trivial⟩
  rw[hcl0,ZB8,if_neg (by rw[hnj2];simp),hcm0]
  conv=>lhs;rw[<-List.take_append_drop (k+1) S,List.flatMap_append]
  exact List.take_left' (by rw[hfl,List.length_take,Nat.min_eq_left (by omega)])
 rintro i m ds h2 ⟨rfl,hi1,hi,hX2,⟨cs,hg2,hcl,hct,hcd⟩,hql,hq1,hall⟩;refine Wc.le ?_ (Le.kn hall);refine zy ?_;refine zC (ZAU rfl rfl) (fun hil=>?_) (fun hil=>?_)
 ·have hi':k+1+i<S.length:=by omega
  obtain⟨i,rfl⟩:∃i',i=i'+1:=⟨i-1,by omega⟩;have hi2:k+1+i<S.length:=by omega
  have hstep:=ZB8 S (k+1+(i+1));have hn2:anew S (k+1+(i+1))=decide (S[k+1+(i+1)]≠S[k+1+i]):=by
   unfold anew;rw[ZBd hi',show k+1+(i+1)-1=k+1+i by omega,ZBd hi2];simp
  rw[ZBd hi',hn2] at hstep
  have hrow:∀j (hj:j<S.length),k+(i+1)<=j->ZAw h2 b (j*1) 1=some (encT S[j]):=fun j hj hge=>by
   unfold ZAw;rw[hg2]
   show cut cs (j*1) 1=_
   have h1:=ZCA (f:=encT) (k:=1) (P:=S) hj fun _ _=>rfl;rw[ZDQ (by rw[hfl];omega)] at h1;rw[ZDQ (by rw[hcl];omega),<-h1]
   congr 2
   have e3:(cs.drop ((k+(i+1))*1)).drop ((j-(k+(i+1)))*1)=((S.flatMap encT).drop ((k+(i+1))*1)).drop ((j-(k+(i+1)))*1):=by rw[hcd]
   rw[List.drop_drop,List.drop_drop,show (k+(i+1))*1+(j-(k+(i+1)))*1=j*1 by omega] at e3;exact e3
  have hc1:ZAw h2 b ((k+1)*1+(i+1)*1) 1=some (encT S[k+1+(i+1)]):=by
   have:=hrow (k+1+(i+1)) hi' (by omega)
   rwa [show (k+1+(i+1))*1=(k+1)*1+(i+1)*1 by omega] at this
  have hc2:ZAw h2 b ((k+1)*1+i*1) 1=some (encT S[k+1+i]):=by
   have:=hrow (k+1+i) hi2 (by omega)
   rwa [show (k+1+i)*1=(k+1)*1+i*1 by omega] at this
  have hdr:cs.drop ((k+(i+1+1))*1)=(S.flatMap encT).drop ((k+(i+1+1))*1):=by
   have e1:(cs.drop ((k+(i+1))*1)).drop 1=((S.flatMap encT).drop ((k+(i+1))*1)).drop 1:=by rw[hcd]
   rw[List.drop_drop,List.drop_drop,show (k+(i+1))*1+1=(k+(i+1+1))*1 by omega] at e1;exact e1
  have hkk:k+1+(i+1)+1=k+1+(i+1+1):=by omega
  rw[hkk] at hstep;clear hrow;generalize S[k+1+(i+1)]=x2 at *;generalize S[k+1+i]=y2 at *;generalize hqq:(cmpG S (k+1+(i+1))).length=q at *;have hd1:=ZAK (k:=0) hc1 rfl;have hd2:=ZAK (k:=0) hc2 rfl;rw[Nat.add_zero] at hd1 hd2;refine zy ?_
  by_cases hne:x2=y2
  ·rw[if_neg (by simp[hne])] at hstep
   refine ZAL hmix xB40 xB41 none [] (by kernel_rfl) (by kernel_rfl) ?_;refine z_m ?_;refine z_m ?_;refine ZAB rfl rfl rfl rfl rfl (fun _=>A_ix (k:=i+1) Und.h Tsz.h rfl rfl) ?_;refine z_l ?_;refine z_m ?_;refine z_m ?_;refine ZAB rfl rfl rfl rfl rfl (fun _=>ZJs rfl rfl (by omega) (by omega)) ?_;refine ZAB rfl rfl rfl rfl rfl (fun _=>ZAE (k:=i) Und.h Tsz.h rfl rfl (by omega) (by omega)) ?_;refine z_l ?_;refine ZAB rfl rfl rfl rfl rfl (fun _=>A_ff (show ¬x2≠y2 from fun q=>q hne) (ZA6 rfl rfl)) ?_;refine ZAO (ZAA rfl) nb' ?_;refine zy ?_;exact⟨i+1+1,(by show S.length-(i+1+1)<S.length-(i+1);omega),rfl,by omega,by omega,hX2,⟨cs,hg2,hcl,by rw[hstep,hqq];exact hct,hdr⟩,(by rw[hstep,hqq];omega),(by rw[hstep,hqq];omega),rfl,(by rw[hstep,hqq];rfl),rfl,rfl,trivial⟩
  ·rw[if_pos (by simp[hne])] at hstep
   have hql2:(cmpG S (k+1+(i+1+1))).length=q+1:=by rw[hstep,List.length_append,hqq];rfl
   have hqlt:q<S.length:=by omega
   refine ZAL hmix xB40 xB41 none [] (by kernel_rfl) (by kernel_rfl) ?_;refine z_m ?_;refine z_m ?_;refine ZAB rfl rfl rfl rfl rfl (fun _=>A_ix (k:=i+1) Und.h Tsz.h rfl rfl) ?_;refine z_l ?_;refine z_m ?_;refine z_m ?_;refine ZAB rfl rfl rfl rfl rfl (fun _=>ZJs rfl rfl (by omega) (by omega)) ?_;refine ZAB rfl rfl rfl rfl rfl (fun _=>ZAE (k:=i) Und.h Tsz.h rfl rfl (by omega) (by omega)) ?_;refine z_l ?_;refine ZAB rfl rfl rfl rfl rfl (fun _=>A_tt (show x2≠y2 from hne) (ZA6 rfl rfl)) ?_;refine ZAO (ZAA rfl) nb' ?_;refine zy ?_;refine zD (A_ix Und.h Tsz.h rfl rfl) ?_;refine zD (A_ix Und.h Tsz.h rfl rfl) ?_
   refine ZAf rfl Tsz.h rfl rfl hg2 rfl rfl (ZCg (by show 0+q*1+1<=cs.length;rw[hcl];omega)) fun h4 hU=>?_;refine zy ?_;have hlt:(cs.take (q*1)).length=q*1:=by rw[List.length_take,hcl];omega
   rw[Nat.zero_add] at hU;refine⟨i+1+1,(by show S.length-(i+1+1)<S.length-(i+1);omega),rfl,by omega,by omega,hX2.upd hU rfl,⟨_,hU.at',?_,?_,?_⟩,by omega,by omega,rfl,(by rw[hql2];rfl),rfl,rfl,trivial⟩
   ·rw[List.length_append,hlt,List.length_append,List.length_drop,hcl]
    show q*1+(1+(S.length*1-(q*1+1)))=S.length*1
    omega
   ·rw[hql2,hstep,List.flatMap_append,<-hct,<-List.append_assoc]
    refine (List.take_left' ?_).trans ?_
    ·rw[List.length_append,hlt]
     show q*1+1=(q+1)*1
     omega
    ·rw[List.flatMap_singleton];rfl
   ·rw[<-hdr,<-List.append_assoc,List.drop_append,List.drop_eq_nil_of_le (by
     rw[List.length_append,hlt]
     show q*1+1<=(k+(i+1+1))*1
     omega),List.nil_append,List.drop_drop,List.length_append,hlt]
    congr 1
    show q*1+1+((k+(i+1+1))*1-(q*1+1))=_
    omega
 have hk2:k+1+i=S.length:=by omega
 rw[hk2] at hct hq1;have hql3:(cmpG S S.length).length<S.length:=by rw[<-hk2];omega
 generalize hqq:(cmpG S S.length).length=q at *;obtain⟨a3,c3,hfr3,hA3⟩:=ZJ5 (z:=0) (P:=Tryz.prog) (t:=54) (el:=9) (b:=b) (n:=S.length) (k:=q) (sp:=sp) (kj:=.i64) Und.h Tsz.h hsp (by omega);obtain⟨o3,e1,e2⟩:=hfr3 hql3;rw[e2] at e1;subst e1;obtain⟨c4,hc4,hB⟩:=ZU3 (z:=0) (P:=Tryz.prog) (t:=54) (el:=9) (b:=b) (n:=S.length) (k:=q) (sp:=sp) (kj:=.i64) Und.h Tsz.h hsp (by omega);rw[hk2,hqq];refine zy ?_;refine zD (hA3 rfl rfl) ?_
 refine ZGe rfl rfl rfl (ZNx rfl rfl rfl rfl (ZN7 (z:=(str [])) Und.h Zr.h rfl (ZMv _) (by rcases hsp with rfl|rfl <;> simp) (by omega) hg2 (ZCg (by rw[ZDf,hcl];show q*1+(S.length-q)*1<=S.length*1;omega)))) ?_
 refine zy ?_;refine zD (hB rfl rfl) ?_;have hX3:Exb (fun c=>c=b) h (h2.set b (.cells (cs.take (q*1)++(rep (S.length-q) ((str [])).cells.toList++cs.drop (q*1+(rep (S.length-q) ((str [])).cells.toList).length))) 9 op)):=hX2.set _ rfl;refine ZAC (ZAD rfl ⟨hX3.ext hE0 hw0 fun c hc=>by rw[hc];exact hb0,hX3.mono fun c hc=>by rw[hc];rfl,_,c4,rfl,⟨fun i hi=>⟨b,0,sp,rfl,_,?_,rfl⟩,fun e=>by rw[e] at hqq;simp at hqq;omega⟩,(fun e=>nomatch e),fun b1 o1 s1 e=>by cases e;rfl⟩);unfold ZAw;rw[Heap.get_set_self]
 show cut _ (0+i*1) 1=_
 rw[show 0+i*1=i*1 from Nat.zero_add _];have hi2:i<q:=by rw[<-hqq];exact hi
 have h1:=ZCA (f:=encT) (k:=1) (P:=cmpG S S.length) hi fun _ _=>rfl;rw[<-hct,ZDQ (by rw[List.length_take,hcl];omega)] at h1;rw[ZDQ (by rw[List.length_append,List.length_take,hcl];omega),<-h1]
 congr 1
 rw[List.drop_append_of_le_length (by rw[List.length_take,hcl];omega),List.take_append_of_le_length (by rw[List.length_drop,List.length_take,hcl];omega)]
abbrev xB50:List Nat:=[0,0,3,7,0,0,32,112,240,511]
abbrev xB51:List Nat:=[0,1,2,3,4,5,6,7,8,9]
noncomputable def recK:KeyK Tryz.prog 45 WkR where
 enc:=fun x=>.agg ⟨rowW x⟩
 ks:=.struct [(.string,0),(.int .i64,1),(.int .i64,2),(.int .i64,3),(.string,4),(.string,5)]
 hks:=by kernel_rfl
 flat:=fun _=>rfl
 ok:=fun _=>rfl
 eq:=fun a b=>by
  obtain⟨a1,a2,a3,a4,a5,a6⟩:=a;obtain⟨b1,b2,b3,b4,b5,b6⟩:=b
  show eqFs [(.string,0),(.int .i64,1),(.int .i64,2),(.int .i64,3),(.string,4),(.string,5)] [str a1,i64 a2,i64 a3,i64 a4,str a5,str a6] [str b1,i64 b2,i64 b3,i64 b4,str b5,str b6]=_
  have e:∀x y:Int,(x == y)=decide (x=y):=fun _ _=>rfl;simp only[eqFs,nth,Instr.sameNow,e,ZJA,WkR.mk.injEq]
  by_cases h1:a1=b1 <;> by_cases h2:a2=b2 <;> by_cases h3:a3=b3 <;> by_cases h4:a4=b4 <;> by_cases h5:a5=b5 <;> by_cases h6:a6=b6 <;> simp[h1,h2,h3,h4,h5,h6]
 same:=fun a=>by simp[Instr.sameBits,ZJA]
theorem recG:Tryz.prog.eqGuardType Tryz.prog.depth 45=false:=by kernel_rfl
noncomputable def keyK:KeyK Tryz.prog 88 Key where
 enc:=fun k=>.agg ⟨rowK k⟩
 ks:=.struct [(.string,0),(.int .i64,1)]
 hks:=by kernel_rfl
 flat:=fun _=>rfl
 ok:=fun _=>rfl
 eq:=fun a b=>by
  obtain⟨a1,a2⟩:=a;obtain⟨b1,b2⟩:=b
  show eqFs [(.string,0),(.int .i64,1)] [str a1,i64 a2] [str b1,i64 b2]=_
  have e:∀x y:Int,(x == y)=decide (x=y):=fun _ _=>rfl;simp only[eqFs,nth,Instr.sameNow,e,ZJA,Prod.mk.injEq]
  by_cases h1:a1=b1 <;> by_cases h2:a2=b2 <;> simp[h1,h2]
 same:=fun a=>by simp[Instr.sameBits,ZJA]
theorem keyG:Tryz.prog.eqGuardType Tryz.prog.depth 88=false:=by kernel_rfl
theorem ZM2 (n:Nat):allOne (rep n (Value.agg ⟨[str [],i64 0,i64 0,i64 0,str [],str []]⟩).cells.toList)=true:=by
 induction n with
 | zero=>rfl
 | succ n ih=>rw[ZFY];exact ih
set_option maxHeartbeats 8000000 in
theorem ZIU {h0 h:Heap}{v:Value}{S:List WkR}(hF:ZAF h0 h v 45 6 (S.flatMap rowW) S.length)(hlen:S.length<=1000000)(hw0:WF h0)(hE0:Ext h0 h) :
  Sv Tryz.prog 94 [v] h (RetP fun r h'=>Ext h0 h'/\Exb (fun c=>ZBM v=some c) h h'/\∃a cap,r=.slice a (cmpG S S.length).length cap/\SrcK rowW 6 h' a (cmpG S S.length)/\(a=none->cmpG S S.length=[]/\cap=0)/\(∀b o sp,a=some ⟨b,o,sp⟩->ZBM v=some b)/\ZN2 Tryz.prog 45 a (cmpG S S.length).length cap):=by
 obtain⟨a0,e0,hI0,hn0⟩:=ZAF.rowsAt (enc:=rowW) (k:=6) (fun _=>rfl) hF rfl;obtain⟨aT,eT,hTk⟩:=ZAF.takeOk (P:=Tryz.prog) hF Tsz.h;obtain rfl:a0=aT:=by rw[e0] at eT;injection eT
 clear eT
 by_cases hS2:S.length<2
 ·have hall:cmpG S S.length=S:=by
   rw[ZEg (Nat.le_refl _) fun i hi=>decide_eq_true (Or.inl (by omega)),List.take_length]
  rw[hall];subst e0;refine ZAG Tryz.func94 rfl (by rw[Tryz.ntmps94];rfl) ?_;show Wc Tryz.prog ⟨94,61,none⟩ _ _ _ _ _;refine zy ?_;refine zD (A_tt (show (S.length:Int)<2 by omega) (ZAU rfl rfl)) ?_;exact ZAC (ZAD rfl ⟨hE0,Exb.refl _ _,_,_,rfl,hI0,fun e=>⟨hn0 e,by rw[hn0 e];rfl⟩,fun b o sp e=>(by rw[e];rfl),hTk⟩)
 rcases hF with ⟨-,-,hz⟩|⟨b,sp,op,rfl,hg,-,hb0,hsp⟩
 ·omega
 obtain rfl:a0=some ⟨b,0,sp⟩:=by injection e0 with e1;exact e1.symm
 have hTk0:ZN2 Tryz.prog 45 (some ⟨b,0,sp⟩) S.length S.length:=hTk;clear e0 hI0 hn0 hTk;have hfl:∀l:List WkR,(l.flatMap rowW).length=l.length*6:=fun l=>ZBe (enc:=rowW) (k:=6) (fun _=>rfl) l
 have hI:∀i (hi:i<S.length),ZAw h b (i*6) 6=some (rowW S[i]):=fun i hi=>by
  unfold ZAw;rw[hg];exact ZCA hi fun _ _=>rfl
 have hSr:ZBO 6 (fun _ row x=>row=rowW x) h (some ⟨b,0,sp⟩) S:=fun i hi=>⟨b,0,sp,rfl,rowW S[i],by rw[Nat.zero_add];exact hI i hi,rfl⟩;refine ZAG Tryz.func94 rfl (by rw[Tryz.ntmps94];rfl) ?_;show Wc Tryz.prog ⟨94,61,none⟩ _ _ _ _ _;refine zy ?_;refine zD (A_ff (show ¬(S.length:Int)<2 by omega) (ZAU rfl rfl)) ?_;refine ZAN (fun (j:Nat) m ds h'=>ds=[]/\1<=j/\j<=S.length/\h'=h/\(∀i,i<j->anew S i=true)/\AllK m [(0,.slice (some ⟨b,0,sp⟩) S.length S.length),(3,i64 (j:Nat))]) (fun j=>S.length-j) 1 ?_ ?_
 ·exact⟨rfl,Nat.le_refl _,by omega,rfl,(fun i hi=>decide_eq_true (Or.inl (by omega))),rfl,rfl,trivial⟩
 rintro j m ds h1 ⟨rfl,hj1,hj,e1,hnew,hall⟩;subst h1;refine Wc.le ?_ (Le.kn hall);refine zy ?_;refine zC (ZAU rfl rfl) (fun hjl=>?_) (fun hjl=>?_);rotate_left
 ·have hk2:j=S.length:=by omega
  subst hk2;have hall:cmpG S S.length=S:=by rw[ZEg (Nat.le_refl _) hnew,List.take_length]
  rw[hall];refine zy ?_;exact ZAC (ZAD rfl ⟨hE0,Exb.refl _ _,_,_,rfl,⟨hSr,fun e=>by rw[e] at hS2;simp at hS2⟩,(fun e=>nomatch e),fun b1 o1 s1 e=>(by cases e;rfl),hTk0⟩)
 have hj':j<S.length:=by omega
 obtain⟨k,rfl⟩:∃k,j=k+1:=⟨j-1,by omega⟩;have hk':k<S.length:=by omega
 have hc1:ZAw h b (0+(k+1)*6) 6=some (rowW S[k+1]):=by rw[Nat.zero_add];exact hI _ hj'
 have hc2:ZAw h b (0+k*6) 6=some (rowW S[k]):=by rw[Nat.zero_add];exact hI _ hk'
 have hnj:anew S (k+1)=decide (¬S[k+1]=S[k]):=by
  unfold anew;rw[ZBd hj',show k+1-1=k from rfl,ZBd hk'];simp
 refine zy ?_
 by_cases heq:S[k+1]=S[k]
 rotate_left
 ·have hnj2:anew S (k+1)=true:=by rw[hnj];exact decide_eq_true heq
  generalize S[k+1]=x at *;generalize S[k]=y at *;refine ZAL hmix xB50 xB51 none [] (by kernel_rfl) (by kernel_rfl) ?_;refine z_m ?_;refine z_m ?_;refine ZAB rfl rfl rfl rfl rfl (fun _=>A_ix (k:=k+1) Und.h Tsz.h rfl rfl) ?_;refine z_r ?_;refine z_m ?_;refine z_m ?_;refine ZAB rfl rfl rfl rfl rfl (fun _=>ZJs rfl rfl (by omega) (by omega)) ?_;refine ZAB rfl rfl rfl rfl rfl (fun _=>ZAE (k:=k) Und.h Tsz.h rfl rfl (by omega) (by omega)) ?_;refine z_r ?_;refine ZAB rfl rfl rfl rfl rfl (fun _=>A_ff heq (ZNL recK rfl rfl recG rfl rfl)) ?_;refine ZAO (ZAA rfl) nb' ?_;refine zy ?_;refine⟨k+1+1,(by show S.length-(k+1+1)<S.length-(k+1);omega),rfl,by omega,by omega,rfl,fun i hi=>?_,rfl,rfl,trivial⟩
  rcases Nat.lt_or_ge i (k+1) with q|q
  ·exact hnew i q
  ·have:i=k+1:=by omega
   rw[this];exact hnj2
 have hnj2:anew S (k+1)=false:=by rw[hnj];exact decide_eq_false (fun q=>q heq)
 obtain⟨a2,c2,hfr,hA⟩:=ZJ5 (z:=5) (P:=Tryz.prog) (t:=37) (el:=45) (b:=b) (n:=S.length) (k:=k+1) (sp:=sp) (kj:=.i64) Und.h Tsz.h hsp (by omega);obtain⟨o1,e1,e2⟩:=hfr hj';rw[e2] at e1;subst e1;have hcm0:cmpG S (k+1)=S.take (k+1):=ZEg (by omega) hnew;have hcl0:(cmpG S (k+1+1)).length=k+1:=by rw[ZB8,if_neg (by rw[hnj2];simp),hcm0,List.length_take];omega
 generalize hx:S[k+1]=x at *;generalize hy:S[k]=y at *;refine ZAL hmix xB50 xB51 none [] (by kernel_rfl) (by kernel_rfl) ?_;refine z_m ?_;refine z_m ?_;refine ZAB rfl rfl rfl rfl rfl (fun _=>A_ix (k:=k+1) Und.h Tsz.h rfl rfl) ?_;refine z_r ?_;refine z_m ?_;refine z_m ?_;refine ZAB rfl rfl rfl rfl rfl (fun _=>ZJs rfl rfl (by omega) (by omega)) ?_;refine ZAB rfl rfl rfl rfl rfl (fun _=>ZAE (k:=k) Und.h Tsz.h rfl rfl (by omega) (by omega)) ?_;refine z_r ?_;refine ZAB rfl rfl rfl rfl rfl (fun _=>A_tt heq (ZNL recK rfl rfl recG rfl rfl)) ?_;refine ZAO (ZAA rfl) nb' ?_;refine zy ?_;refine zD (hA rfl rfl) ?_
 refine ZAN (fun (i:Nat) m ds h'=>ds=[]/\1<=i/\i<=S.length-(k+1)/\Exb (fun c=>c=b) h h'/\(∃cs:List Value,h'.get b=some (.cells cs 45 op)/\cs.length=S.length*6/\cs.take ((cmpG S (k+1+i)).length*6)=(cmpG S (k+1+i)).flatMap rowW/\cs.drop ((k+i)*6)=(S.flatMap rowW).drop ((k+i)*6))/\(cmpG S (k+1+i)).length<=k+i/\1<=(cmpG S (k+1+i)).length ∧
   AllK m [(0,.slice (some ⟨b,0,sp⟩) S.length S.length),(3,i64 ((cmpG S (k+1+i)).length:Nat)),(4,.slice (some ⟨b,(k+1)*6,sp⟩) (S.length-(k+1)) c2),(5,i64 (i:Nat))]) (fun i=>S.length-i) 1 ?_ ?_
 ·refine⟨rfl,Nat.le_refl _,by omega,Exb.refl _ _,⟨_,hg,by rw[hfl],?_,rfl⟩,by omega,by omega,rfl,(by rw[hcl0];rfl),rfl,rfl,trivial⟩
  rw[hcl0,ZB8,if_neg (by rw[hnj2];simp),hcm0]
  conv=>lhs;rw[<-List.take_append_drop (k+1) S,List.flatMap_append]
  exact List.take_left' (by rw[hfl,List.length_take,Nat.min_eq_left (by omega)])
 rintro i m ds h2 ⟨rfl,hi1,hi,hX2,⟨cs,hg2,hcl,hct,hcd⟩,hql,hq1,hall⟩;refine Wc.le ?_ (Le.kn hall);refine zy ?_;refine zC (ZAU rfl rfl) (fun hil=>?_) (fun hil=>?_)
 ·have hi':k+1+i<S.length:=by omega
  obtain⟨i,rfl⟩:∃i',i=i'+1:=⟨i-1,by omega⟩;have hi2:k+1+i<S.length:=by omega
  have hstep:=ZB8 S (k+1+(i+1));have hn2:anew S (k+1+(i+1))=decide (S[k+1+(i+1)]≠S[k+1+i]):=by
   unfold anew;rw[ZBd hi',show k+1+(i+1)-1=k+1+i by omega,ZBd hi2];simp
  rw[ZBd hi',hn2] at hstep
  have hrow:∀j (hj:j<S.length),k+(i+1)<=j->ZAw h2 b (j*6) 6=some (rowW S[j]):=fun j hj hge=>by
   unfold ZAw;rw[hg2]
   show cut cs (j*6) 6=_
   have h1:=ZCA (f:=rowW) (k:=6) (P:=S) hj fun _ _=>rfl;rw[ZDQ (by rw[hfl];omega)] at h1;rw[ZDQ (by rw[hcl];omega),<-h1]
   congr 2
   have e3:(cs.drop ((k+(i+1))*6)).drop ((j-(k+(i+1)))*6)=((S.flatMap rowW).drop ((k+(i+1))*6)).drop ((j-(k+(i+1)))*6):=by rw[hcd]
   rw[List.drop_drop,List.drop_drop,show (k+(i+1))*6+(j-(k+(i+1)))*6=j*6 by omega] at e3;exact e3
  have hc1:ZAw h2 b ((k+1)*6+(i+1)*6) 6=some (rowW S[k+1+(i+1)]):=by
   have:=hrow (k+1+(i+1)) hi' (by omega)
   rwa [show (k+1+(i+1))*6=(k+1)*6+(i+1)*6 by omega] at this
  have hc2:ZAw h2 b ((k+1)*6+i*6) 6=some (rowW S[k+1+i]):=by
   have:=hrow (k+1+i) hi2 (by omega)
   rwa [show (k+1+i)*6=(k+1)*6+i*6 by omega] at this
  have hdr:cs.drop ((k+(i+1+1))*6)=(S.flatMap rowW).drop ((k+(i+1+1))*6):=by
   have e1:(cs.drop ((k+(i+1))*6)).drop 6=((S.flatMap rowW).drop ((k+(i+1))*6)).drop 6:=by rw[hcd]
   rw[List.drop_drop,List.drop_drop,show (k+(i+1))*6+6=(k+(i+1+1))*6 by omega] at e1;exact e1
  have hkk:k+1+(i+1)+1=k+1+(i+1+1):=by omega
  rw[hkk] at hstep;clear hrow;generalize S[k+1+(i+1)]=x2 at *;generalize S[k+1+i]=y2 at *;generalize hqq:(cmpG S (k+1+(i+1))).length=q at *;refine zy ?_
  by_cases hne:x2=y2
  ·rw[if_neg (by simp[hne])] at hstep
   refine ZAL hmix xB50 xB51 none [] (by kernel_rfl) (by kernel_rfl) ?_;refine z_m ?_;refine z_m ?_;refine ZAB rfl rfl rfl rfl rfl (fun _=>A_ix (k:=i+1) Und.h Tsz.h rfl rfl) ?_;refine z_r ?_;refine z_m ?_;refine z_m ?_;refine ZAB rfl rfl rfl rfl rfl (fun _=>ZJs rfl rfl (by omega) (by omega)) ?_;refine ZAB rfl rfl rfl rfl rfl (fun _=>ZAE (k:=i) Und.h Tsz.h rfl rfl (by omega) (by omega)) ?_;refine z_r ?_;refine ZAB rfl rfl rfl rfl rfl (fun _=>A_ff (show ¬x2≠y2 from fun q=>q hne) (ZQP recK rfl rfl recG rfl rfl)) ?_;refine ZAO (ZAA rfl) nb' ?_;refine zy ?_;exact⟨i+1+1,(by show S.length-(i+1+1)<S.length-(i+1);omega),rfl,by omega,by omega,hX2,⟨cs,hg2,hcl,by rw[hstep,hqq];exact hct,hdr⟩,(by rw[hstep,hqq];omega),(by rw[hstep,hqq];omega),rfl,(by rw[hstep,hqq];rfl),rfl,rfl,trivial⟩
  ·rw[if_pos (by simp[hne])] at hstep
   have hql2:(cmpG S (k+1+(i+1+1))).length=q+1:=by rw[hstep,List.length_append,hqq];rfl
   have hqlt:q<S.length:=by omega
   refine ZAL hmix xB50 xB51 none [] (by kernel_rfl) (by kernel_rfl) ?_;refine z_m ?_;refine z_m ?_;refine ZAB rfl rfl rfl rfl rfl (fun _=>A_ix (k:=i+1) Und.h Tsz.h rfl rfl) ?_;refine z_r ?_;refine z_m ?_;refine z_m ?_;refine ZAB rfl rfl rfl rfl rfl (fun _=>ZJs rfl rfl (by omega) (by omega)) ?_;refine ZAB rfl rfl rfl rfl rfl (fun _=>ZAE (k:=i) Und.h Tsz.h rfl rfl (by omega) (by omega)) ?_;refine z_r ?_;refine ZAB rfl rfl rfl rfl rfl (fun _=>A_tt (show x2≠y2 from hne) (ZQP recK rfl rfl recG rfl rfl)) ?_;refine ZAO (ZAA rfl) nb' ?_;refine zy ?_;refine zD (A_ix Und.h Tsz.h rfl rfl) ?_;refine zD (A_ix Und.h Tsz.h rfl rfl) ?_
   refine ZAf rfl Tsz.h rfl rfl hg2 rfl rfl (ZCg (by show 0+q*6+6<=cs.length;rw[hcl];omega)) fun h4 hU=>?_;refine zy ?_;have hlt:(cs.take (q*6)).length=q*6:=by rw[List.length_take,hcl];omega
   rw[Nat.zero_add] at hU;refine⟨i+1+1,(by show S.length-(i+1+1)<S.length-(i+1);omega),rfl,by omega,by omega,hX2.upd hU rfl,⟨_,hU.at',?_,?_,?_⟩,by omega,by omega,rfl,(by rw[hql2];rfl),rfl,rfl,trivial⟩
   ·rw[List.length_append,hlt,List.length_append,List.length_drop,hcl]
    show q*6+(6+(S.length*6-(q*6+6)))=S.length*6
    omega
   ·rw[hql2,hstep,List.flatMap_append,<-hct,<-List.append_assoc]
    refine (List.take_left' ?_).trans ?_
    ·rw[List.length_append,hlt]
     show q*6+6=(q+1)*6
     omega
    ·rw[List.flatMap_singleton];rfl
   ·rw[<-hdr,<-List.append_assoc,List.drop_append,List.drop_eq_nil_of_le (by
     rw[List.length_append,hlt]
     show q*6+6<=(k+(i+1+1))*6
     omega),List.nil_append,List.drop_drop,List.length_append,hlt]
    congr 1
    show q*6+6+((k+(i+1+1))*6-(q*6+6))=_
    omega
 have hk2:k+1+i=S.length:=by omega
 rw[hk2] at hct hq1;have hql3:(cmpG S S.length).length<S.length:=by rw[<-hk2];omega
 generalize hqq:(cmpG S S.length).length=q at *;obtain⟨a3,c3,hfr3,hA3⟩:=ZJ5 (z:=5) (P:=Tryz.prog) (t:=37) (el:=45) (b:=b) (n:=S.length) (k:=q) (sp:=sp) (kj:=.i64) Und.h Tsz.h hsp (by omega);obtain⟨o3,e1,e2⟩:=hfr3 hql3;rw[e2] at e1;subst e1;obtain⟨c4,hc4,hB⟩:=ZU3 (z:=5) (P:=Tryz.prog) (t:=37) (el:=45) (b:=b) (n:=S.length) (k:=q) (sp:=sp) (kj:=.i64) Und.h Tsz.h hsp (by omega);rw[hk2,hqq];refine zy ?_;refine zD (hA3 rfl rfl) ?_
 refine ZGe rfl rfl rfl (ZNx rfl rfl rfl rfl (ZN7 (z:=(Value.agg ⟨[str [],i64 0,i64 0,i64 0,str [],str []]⟩)) Und.h Zr.h rfl (ZM2 _) (by rcases hsp with rfl|rfl <;> simp) (by omega) hg2 (ZCg (by rw[ZDf,hcl];show q*6+(S.length-q)*6<=S.length*6;omega)))) ?_
 refine zy ?_;refine zD (hB rfl rfl) ?_;have hX3:Exb (fun c=>c=b) h (h2.set b (.cells (cs.take (q*6)++(rep (S.length-q) ((Value.agg ⟨[str [],i64 0,i64 0,i64 0,str [],str []]⟩)).cells.toList++cs.drop (q*6+(rep (S.length-q) ((Value.agg ⟨[str [],i64 0,i64 0,i64 0,str [],str []]⟩)).cells.toList).length))) 45 op)):=hX2.set _ rfl
 refine ZAC (ZAD rfl ⟨hX3.ext hE0 hw0 fun c hc=>by rw[hc];exact hb0,hX3.mono fun c hc=>by rw[hc];rfl,_,c4,rfl,⟨fun i hi=>⟨b,0,sp,rfl,_,?_,rfl⟩,fun e=>by rw[e] at hqq;simp at hqq;omega⟩,(fun e=>nomatch e),fun b1 o1 s1 e=>(by cases e;rfl),(by rcases hsp with rfl|rfl <;> first|exact .inr (.inl ⟨b,0,rfl,hc4⟩)|exact .inr (.inr (.inr ⟨b,0,5,rfl,hc4,Tsz.h⟩)))⟩)
 unfold ZAw;rw[Heap.get_set_self]
 show cut _ (0+i*6) 6=_
 rw[show 0+i*6=i*6 from Nat.zero_add _];have hi2:i<q:=by rw[<-hqq];exact hi
 have h1:=ZCA (f:=rowW) (k:=6) (P:=cmpG S S.length) hi fun _ _=>rfl;rw[<-hct,ZDQ (by rw[List.length_take,hcl];omega)] at h1;rw[ZDQ (by rw[List.length_append,List.length_take,hcl];omega),<-h1]
 congr 1
 rw[List.drop_append_of_le_length (by rw[List.length_take,hcl];omega),List.take_append_of_le_length (by rw[List.length_drop,List.length_take,hcl];omega)]
theorem ZQ8 {α:Type}{lt:α->α->Prop} [DecidableRel lt]{l:List α}{e:α}:e∈ZC2 lt l ↔ e∈l:=(List.mergeSort_perm l _).mem_iff
theorem ZSD {α:Type}{lt:α->α->Prop} [DecidableRel lt](hS:ZBY lt)(l:List α):(ZC2 lt l).Pairwise fun a b=>¬lt b a:=by
 have:=List.pairwise_mergeSort (le:=fun x y=>!decide (lt y x)) (fun a b c h1 h2=>by
  simp only[Bool.not_eq_true',decide_eq_false_iff_not] at h1 h2 ⊢;intro h
  rcases hS.tri a b with g|g|g
  ·rcases hS.tri b c with k|k|k
   ·exact hS.irr _ (hS.tr (hS.tr g k) h)
   ·subst k;exact h1 h
   ·exact h2 k
  ·subst g;exact h2 h
  ·exact h1 g) (fun a b=>by
  simp only[Bool.or_eq_true,Bool.not_eq_true',decide_eq_false_iff_not]
  by_cases h:lt b a
  ·exact .inr fun g=>hS.irr _ (hS.tr h g)
  ·exact .inl h) l
 exact this.imp fun h=>by simpa using h
theorem ZLm {α:Type} [Inhabited α] [DecidableEq α]{lt:α->α->Prop} [DecidableRel lt](hS:ZBY lt)(l:List α):cmpG (ZC2 lt l) (ZC2 lt l).length=mrgU lt l:=ZS3 hS (ZSD hS l) fun _=>ZQ8
theorem ZIe {a:Option Addr}{cap:Nat}{l:List WkR}{h:Heap}(hs:SrcK rowW 6 h a l)(hn:a=none->l=[]/\cap=0)(hlen:l.length<1000000) :
  Sv Tryz.prog 52 [.slice a l.length cap,.func (.func 53) ⟨[]⟩ ⟨[]⟩] h (RetP fun r h'=>Ext h h'/\∃a' c',r=.slice a' (mrgU ltW l).length c'/\SrcK rowW 6 h' a' (mrgU ltW l)/\ZN2 Tryz.prog 45 a' (mrgU ltW l).length c'):=by
 refine ZA5 fun hw=>?_;refine ZAG Tryz.func52 rfl (by rw[Tryz.ntmps52];rfl) ?_;show Wc Tryz.prog ⟨52,12,none⟩ _ _ _ _ _;refine zy ?_;refine zR (ZLe hs hn (by omega)) ?_;rintro v1 h1 ⟨hF1,hE1⟩;refine zy ?_;refine zR (ZMQ hF1 hlen) ?_;rintro _ h2 ⟨rfl,hF2,hX2⟩;have hE2:Ext h h2:=hX2.ext hE1 hw fun c hc=>(hF1.at3' hc).2;refine zy ?_;have hl:=ZFa (lt:=ltW) l;rw[<-hl] at hF2;refine zR (ZIU hF2 (by rw[hl];omega) hw hE2) ?_;rintro _ h3 ⟨hE3,hX3,a',c',rfl,hs3,-,-,hT3⟩;rw[ZLm ZA0] at hs3 hT3 ⊢;refine zy ?_;exact ZAC (ZAD rfl ⟨hE3,a',c',rfl,hs3,hT3⟩)
theorem ZJo {a:Option Addr}{cap:Nat}{l:List WkR}{h:Heap}(hs:SrcK rowW 6 h a l)(hn:a=none->l=[]/\cap=0)(hlen:l.length<1000000) :
  Sv Tryz.prog 52 [.slice a l.length cap,.func (.func 53) ⟨[]⟩ ⟨[]⟩] h (RetP fun r h'=>Ext h h'/\∃a' c',r=.slice a' (mrgU ltW l).length c'/\SrcK rowW 6 h' a' (mrgU ltW l)) :=
 (ZIe hs hn hlen).ret fun _ _ hr=>by
  obtain⟨hE,a',c',e,hS,-⟩:=hr;exact⟨hE,a',c',e,hS⟩
theorem ZJ2 {a:Option Addr}{cap:Nat}{l:List (List UInt8)}{h:Heap}(hs:ZJb str h a l)(hn:a=none->l=[]/\cap=0)(hlen:l.length<1000000) :
  Sv Tryz.prog 85 [.slice a l.length cap,.func (.func 35) ⟨[]⟩ ⟨[]⟩] h (RetP fun r h'=>Ext h h'/\∃a' c',r=.slice a' (mrgU ltB l).length c'/\SrcK encT 1 h' a' (mrgU ltB l)/\∀b o sp,a'=some ⟨b,o,sp⟩->h.nx<=b):=by
 refine ZA5 fun hw=>?_;refine ZAG Tryz.func85 rfl (by rw[Tryz.ntmps85];rfl) ?_;show Wc Tryz.prog ⟨85,12,none⟩ _ _ _ _ _;refine zy ?_;refine zR (ZLc hs hn (by omega)) ?_;rintro v1 h1 ⟨hF1,hE1⟩;refine zy ?_;refine zR (ZLa hF1 hlen) ?_;rintro _ h2 ⟨rfl,hF2,hX2⟩;have hE2:Ext h h2:=hX2.ext hE1 hw fun c hc=>(hF1.at3' hc).2;refine zy ?_;have hl:=ZFa (lt:=ltB) l;have em:(ZC2 ltB l).map str=(ZC2 ltB l).flatMap encT:=by
  induction ZC2 ltB l with
  | nil=>rfl
  | cons x r ih=>rw[List.map_cons,ih];rfl
 rw[em,<-hl] at hF2;refine zR (ZIZ hF2 (by rw[hl];omega) hw hE2) ?_;rintro _ h3 ⟨hE3,hX3,a',c',rfl,hs3,-,hbk⟩;rw[ZLm ZAR] at hs3 ⊢;refine zy ?_;exact ZAC (ZAD rfl ⟨hE3,a',c',rfl,hs3,fun b o sp e=>(hF1.at3' (hbk b o sp e)).2⟩)
end Go.Dw
namespace Go.Dw
open Go Go.Dx Go.Proofs
set_option maxRecDepth 100000
theorem ZK3 {a:Option Addr}{cap:Nat}{l:List Key}{k:Key}{h:Heap}(hI:ZBO 2 (fun _ row x=>row=rowK x) h a l)(hlen:Len l) :
  Sv Tryz.prog 96 [.slice a l.length cap,.agg ⟨rowK k⟩] h (RetP fun v h'=>Ext h h'/\∃z:Int,v=i64 z/\decide (0<=z)=decide (k∈l)):=by
 refine ZAG Tryz.func96 rfl (by rw[Tryz.ntmps96];rfl) ?_;show Wc Tryz.prog ⟨96,19,none⟩ _ _ _ _ _;refine zy ?_;refine ZAn rfl rfl rfl fun h1 hE1 hW1 hg1 hn1=>?_;generalize h.nx=b1 at hg1 ⊢;refine zy ?_;refine ZAN (fun (j:Nat) m ds h'=>ds=[]/\h1=h'/\j<=l.length/\k ∉ l.take j/\AllK m [(0,.slice a l.length cap),(3,.pointer (some ⟨b1,0,none⟩)),(7,i64 l.length),(8,i64 (j:Nat))]) (fun j=>l.length-j) 0 ?_ ?_
 ·exact⟨rfl,rfl,Nat.zero_le _,by simp,rfl,rfl,rfl,rfl,trivial⟩
 rintro j m ds h' ⟨rfl,rfl,hj,hno,hall⟩;refine Wc.le ?_ (Le.kn hall);clear hall;refine zy ?_;refine zC (ZAU rfl rfl) (fun hjl=>?_) (fun hjl=>?_);rotate_left
 ·have:j=l.length:=by omega
  subst this;rw[List.take_length] at hno;refine zy ?_;exact ZAC (ZAD rfl ⟨hE1,_,rfl,by rw[decide_eq_false hno];rfl⟩)
 have hj':j<l.length:=by omega
 obtain⟨b,o,oa,rfl,row,hrow0,hx⟩:=hI j hj';have hrow:=hE1.row hrow0;have hx2:row=rowK l[j]:=hx;have hin:=List.getElem_mem hj';have htk:l.take (j+1)=l.take j++[l[j]]:=by rw[List.take_add_one,List.getElem?_eq_getElem hj'];rfl
 clear hx hrow0;generalize l[j]=x at hx2 hin htk;subst hx2;refine zy ?_
 by_cases hq:k=x
 ·refine ZAL hmix [0,0,0,6,14,31] [0,1,2,3,4,5] none [] (by kernel_rfl) (by kernel_rfl) ?_
  refine z_r ?_;refine z_m ?_;refine z_m ?_;refine ZAB rfl rfl rfl rfl rfl (fun _=>A_ix (k:=j) Und.h Tsz.h rfl rfl) ?_;refine z_r ?_;refine ZAB rfl rfl rfl rfl rfl (fun _=>A_tt hq (ZNL keyK rfl rfl keyG rfl rfl)) ?_;refine ZAO (ZAA rfl) nb' ?_;refine zy ?_;exact ZAC (ZAD rfl ⟨hE1,_,rfl,by rw[decide_eq_true (show k∈l by rw[hq];exact hin),decide_eq_true (show (0:Int)<=(j:Int) by omega)]⟩)
 ·refine ZAL hmix [0,0,0,6,14,31] [0,1,2,3,4,5] none [] (by kernel_rfl) (by kernel_rfl) ?_
  refine z_r ?_;refine z_m ?_;refine z_m ?_;refine ZAB rfl rfl rfl rfl rfl (fun _=>A_ix (k:=j) Und.h Tsz.h rfl rfl) ?_;refine z_r ?_;refine ZAB rfl rfl rfl rfl rfl (fun _=>A_ff hq (ZNL keyK rfl rfl keyG rfl rfl)) ?_;refine ZAO (ZAA rfl) nb' ?_;refine zy ?_;refine⟨j+1,(by show l.length-(j+1)<l.length-j;omega),rfl,rfl,hj',?_,rfl,rfl,rfl,rfl,trivial⟩;rw[htk,List.mem_append,List.mem_singleton];exact fun e=>e.elim hno hq
theorem ZCt {a:Option Addr}{cap:Nat}{l:List Key}{k:Key}{h:Heap}(hI:ZBO 2 (fun _ row x=>row=rowK x) h a l)(hlen:Len l) :
  Sv Tryz.prog 54 [.slice a l.length cap,.agg ⟨rowK k⟩] h (RetP fun v h'=>v=.bool (decide (k∈l))/\Ext h h'):=by
 refine ZAG Tryz.func54 rfl (by rw[Tryz.ntmps54];rfl) ?_;show Wc Tryz.prog ⟨54,9,none⟩ _ _ _ _ _;refine zy ?_;refine ZAn rfl rfl rfl fun h1 hE1 hW1 hg1 hn1=>?_;refine zy ?_;refine zR (ZK3 (k:=k) (ZBO.ext (fun hr _=>hr) hI hE1) hlen) ?_;rintro _ h2 ⟨hE2,z,rfl,hz⟩;refine zy ?_;refine zD (ZFD rfl rfl) ?_;exact ZAC (ZAD rfl ⟨by rw[hz];rfl,hE1.trans hE2⟩)
theorem ZLx {a:Option Addr}{cap:Nat}{l:List Int}{k:Int}{h:Heap}(hI:ZAi i64 h a l)(hlen:Len l) :
  Sv Tryz.prog 135 [.slice a l.length cap,i64 k] h (RetP fun v h'=>h'=h/\∃z:Int,v=i64 z/\decide (0<=z)=decide (k∈l)):=by
 refine ZAG Tryz.func135 rfl (by rw[Tryz.ntmps135];rfl) ?_;show Wc Tryz.prog ⟨135,19,none⟩ _ _ _ _ _;refine zy ?_;refine ZAN (fun (j:Nat) m ds h'=>ds=[]/\h=h'/\j<=l.length/\k ∉ l.take j/\AllK m [(0,.slice a l.length cap),(1,i64 k),(7,i64 l.length),(8,i64 (j:Nat))]) (fun j=>l.length-j) 0 ?_ ?_
 ·exact⟨rfl,rfl,Nat.zero_le _,by simp,rfl,rfl,rfl,rfl,trivial⟩
 rintro j m ds h' ⟨rfl,rfl,hj,hno,hall⟩;refine Wc.le ?_ (Le.kn hall);clear hall;refine zy ?_;refine zC (ZAU rfl rfl) (fun hjl=>?_) (fun hjl=>?_);rotate_left
 ·have:j=l.length:=by omega
  subst this;rw[List.take_length] at hno;refine zy ?_;exact ZAC (ZAD rfl ⟨rfl,_,rfl,by rw[decide_eq_false hno];rfl⟩)
 have hj':j<l.length:=by omega
 obtain⟨b,o,oa,rfl,hcell⟩:=hI j hj';have hin:=List.getElem_mem hj';have htk:l.take (j+1)=l.take j++[l[j]]:=by rw[List.take_add_one,List.getElem?_eq_getElem hj'];rfl
 generalize l[j]=x at hcell hin htk;refine zy ?_;refine zD (A_ix Und.h Tsz.h rfl rfl) ?_;refine zC (ZAg rfl rfl) (fun hq=>?_) (fun hq=>?_)
 ·refine zy ?_
  exact ZAC (ZAD rfl ⟨rfl,_,rfl,by rw[decide_eq_true (show k∈l by rw[hq];exact hin),decide_eq_true (show (0:Int)<=(j:Int) by omega)]⟩)
 ·refine zy ?_
  refine⟨j+1,(by show l.length-(j+1)<l.length-j;omega),rfl,rfl,hj',?_,rfl,rfl,rfl,rfl,trivial⟩;rw[htk,List.mem_append,List.mem_singleton];exact fun e=>e.elim hno hq
theorem ZHJ {a:Option Addr}{cap:Nat}{l:List Int}{k:Int}{h:Heap}(hI:ZAi i64 h a l)(hlen:Len l) :
  Sv Tryz.prog 87 [.slice a l.length cap,i64 k] h (RetP fun v h'=>v=.bool (decide (k∈l))/\h'=h):=by
 refine ZAG Tryz.func87 rfl (by rw[Tryz.ntmps87];rfl) ?_;show Wc Tryz.prog ⟨87,9,none⟩ _ _ _ _ _;refine zy ?_;refine zR (ZLx (k:=k) hI hlen) ?_;rintro _ h2 ⟨rfl,z,rfl,hz⟩;refine zy ?_;refine zD (ZFD rfl rfl) ?_;exact ZAC (ZAD rfl ⟨by rw[hz];rfl,rfl⟩)
abbrev encW (x:WkR):Value:=.agg ⟨rowW x⟩
def ZIY:WkR:=⟨[],0,0,0,[],[]⟩
def ZKq (l:List WkR)(v:Value)(h':Heap):Prop :=
 ((chkS l).2≠0/\v=.tuple ⟨[.slice none 0 0,.slice none 0 0,i64 (chkS l).2]⟩) ∨
 ((chkS l).2=0/\∃a af,v=.tuple ⟨[.slice a (ZAk (mrgU ltW l)).length (ZAk (mrgU ltW l)).length,.slice af (ZCB (mrgU ltW l)).length (ZCB (mrgU ltW l)).length,i64 0]⟩/\SrcK rowW 6 h' a (ZAk (mrgU ltW l))/\SrcK rowK 2 h' af (ZCB (mrgU ltW l))/\(a=none->ZAk (mrgU ltW l)=[])/\(af=none->ZCB (mrgU ltW l)=[]))
theorem ZE9 {l:List WkR}(h:(chkS l).2=0):l.length<=200:=by
 unfold chkS at h
 split at h
 ·exact absurd h (by decide)
 ·omega
theorem ZIO:∀{l:List WkR}{i:Nat},(ZFy i l).2=0->∀x∈l,ZBG x=0
 | [],_,_,_,hx=>nomatch hx
 | x::l,i,h,y,hy=>by
  unfold ZFy at h
  split at h
  ·rename_i h1;exact absurd h h1
  ·rename_i h1
   rcases List.mem_cons.1 hy with rfl|hy
   ·exact Classical.byContradiction fun q=>h1 q
   ·exact ZIO h y hy
theorem ZEa {l:List WkR}(h:(chkS l).2=0):∀x∈l,ZBG x=0:=by
 have hl:=ZE9 h;unfold chkS at h;rw[if_neg (by omega)] at h;exact ZIO h
def ZE2 (gl:List (Key×Value))(f:Key->Option WkR):Prop:=Once gl/\∀k,lkp k gl=(f k).map encW
theorem ZE2.val {gl:List (Key×Value)}{f:Key->Option WkR}(h:ZE2 gl f)(k:Key):(lkp k gl).getD (encW ZIY)=encW ((f k).getD ZIY):=by
 rw[h.2];cases f k <;> rfl
theorem ZE2.is {gl:List (Key×Value)}{f:Key->Option WkR}(h:ZE2 gl f)(k:Key):(lkp k gl).isSome=(f k).isSome:=by
 rw[h.2];cases f k <;> rfl
theorem ZE2.del {gl:List (Key×Value)}{f g:Key->Option WkR}(h:ZE2 gl f){k:Key}(hg:∀k',g k'=if k'=k then none else f k'):ZE2 (delK k gl) g:=by
 refine⟨h.1.del,fun k'=>?_⟩;rw[ZOB _ _ h.1,hg,h.2]
 split <;> rfl
theorem ZE2.set {gl:List (Key×Value)}{f g:Key->Option WkR}(h:ZE2 gl f){k:Key}{x:WkR}(hg:∀k',g k'=if k'=k then some x else f k'):ZE2 (setK k (encW x) gl) g:=by
 refine⟨h.1.set,fun k'=>?_⟩;rw[ZBw,hg,h.2]
 split <;> rfl
theorem ZNN {p:List WkR}{x:WkR}(h:cntK p x.key≠0)(k:Key):ZC4 (p++[x]) k=if k=x.key then none else ZC4 p k:=by
 rw[ZIs]
 by_cases hk:k=x.key
 ·rw[if_pos hk,if_pos hk,hk,if_neg h]
 ·rw[if_neg hk,if_neg hk]
theorem ZSV {p:List WkR}{x:WkR}(h:cntK p x.key=0)(k:Key):ZC4 (p++[x]) k=if k=x.key then some x else ZC4 p k:=by
 rw[ZIs]
 by_cases hk:k=x.key
 ·rw[if_pos hk,if_pos hk,hk,if_pos h]
 ·rw[if_neg hk,if_neg hk]
theorem ZP2 (L:List WkR)(k:Key):ZCc L [] k=ZC4 L k:=by
 unfold ZCc
 cases ZC4 L k with
 | none=>rfl
 | some y=>simp[ZHp,Option.filter_some]
theorem ZSU {x:WkR}(h:ZBG x=0)(h6:x.kind=6):0<numR x.b:=by
 unfold ZBG at h
 split at h
 ·exact absurd h (by decide)
 split at h
 ·exact absurd h (by decide)
 split at h
 ·exact absurd h (by decide)
 split at h
 ·exact absurd h (by decide)
 ·rename_i hg
  simp only[Bool.not_eq_false,Bool.and_eq_true,ZFv,h6] at hg;exact of_decide_eq_true hg.2
def ZRs (l:List WkR)(v:Value)(h h':Heap):Prop :=
 ((chkS l).2≠0/\v=.tuple ⟨[.slice none 0 0,.slice none 0 0,i64 (chkS l).2]⟩) ∨
 ((chkS l).2=0/\∃vs vf,v=.tuple ⟨[vs,vf,i64 0]⟩/\ZAF h h' vs 45 6 ((ZAk (mrgU ltW l)).flatMap rowW) (ZAk (mrgU ltW l)).length/\ZAF h h' vf 88 2 ((ZCB (mrgU ltW l)).flatMap rowK) (ZCB (mrgU ltW l)).length)
theorem ZRs.r {l:List WkR}{v:Value}{h h':Heap}(hO:ZRs l v h h'):ZKq l v h':=by
 rcases hO with ⟨h1,h2⟩|⟨h1,vs,vf,rfl,hs,hf⟩
 ·exact .inl ⟨h1,h2⟩
 ·obtain⟨aS,rfl,hSs,hns⟩:=ZAF.rowsAt (enc:=rowW) (k:=6) (fun _=>rfl) hs rfl
  obtain⟨af,rfl,hSf,hnf⟩:=ZAF.rowsAt (enc:=rowK) (k:=2) (fun _=>rfl) hf rfl;exact .inr ⟨h1,aS,af,rfl,hSs,hSf,hns,hnf⟩
set_option maxHeartbeats 4000000 in
theorem ZSm {a:Option Addr}{cap:Nat}{l:List WkR}{h:Heap}(hR:SrcK rowW 6 h a l)(hn:a=none->l=[]/\cap=0)(hf:∀x∈l,x.Fit)(hlen:Len l)(hL:WkLib h) :
  Sv Tryz.prog 29 [.slice a l.length cap] h (RetP fun v h'=>ZRs l v h h'/\Ext h h'):=by
 refine ZA5 fun hw=>?_;have hck:=ZLM (cap:=cap) hR.1 hf hlen hL;unfold ZRs;have hcl:=ZE9 (l:=l);have hcg:=ZEa (l:=l);generalize chkS l=ck at *;refine ZAG Tryz.func29 rfl (by rw[Tryz.ntmps29];rfl) ?_;show Wc Tryz.prog ⟨29,137,none⟩ _ _ _ _ _;refine zy ?_;refine zW (hck) fun h1 hE1=>?_;refine zy ?_;refine zC (ZAh rfl rfl) (fun hc=>?_) (fun hc=>?_)
 ·refine zy ?_
  exact ZAC (ZAD rfl ⟨.inl ⟨hc,rfl⟩,hE1⟩)
 have hc0:ck.2=0:=Classical.byContradiction fun q=>hc q;have hl2:=hcl hc0;replace hcg:=hcg hc0;refine zy ?_;refine zR (ZJo (hR.ext hE1) hn (by omega)) ?_;rintro _ h3 ⟨hE3,a3,c3,rfl,hS3⟩;have hE13:=hE1.trans hE3;have hll:(mrgU ltW l).length<=200:=Nat.le_trans (ZFU ZA0 l) hl2;have hLf:∀x∈mrgU ltW l,x.Fit/\ZBG x=0:=fun x hx=>⟨hf x ((ZBS ZA0).1 hx),hcg x ((ZBS ZA0).1 hx)⟩;have hwl:=hL.ext hE13;clear hck hcl hcg hf;generalize mrgU ltW l=L at *;refine ZBC fun hw3=>?_;refine zy ?_;refine ZCe rfl rfl fun h4 hE4 hW4 hg4 hn4=>?_;have hO4:=((Own.nil h3 h3).newMap (K:=keyK) hw3 (Nat.le_refl _) hE4 hg4 (Nat.le_refl _)).nilSl 88 2
 replace hO4:=hO4.up2;generalize h3.nx=bm at hO4 hg4 ⊢;refine zy ?_;refine ZAN (fun (s:Nat×Value×List (Key×Value)) m ds h'=>ds=[]/\s.1<=L.length/\Ext h3 h'/\Own h3 h' [mapI keyK bm s.2.2,slI h3 s.2.1 88 2 ((ZCB (L.take s.1)).flatMap rowK) (ZCB (L.take s.1)).length]/\ZE2 s.2.2 (ZC4 (L.take s.1))/\AllK m [(0,.slice a3 L.length c3),(2,.slice none 0 0),(3,s.2.1),(5,.map (some bm)),(33,.slice a3 L.length c3),(34,i64 L.length),(35,i64 (s.1:Nat))]) (fun s=>L.length-s.1) (0,.slice none 0 0,[]) ?_ ?_
 ·exact⟨rfl,Nat.zero_le _,hE4,hO4,⟨by simp[Once],fun k=>rfl⟩,rfl,rfl,rfl,rfl,rfl,rfl,rfl,trivial⟩
 clear hO4 hg4 hE4 hW4 hn4;rintro⟨s,vf,gl⟩ m ds h4 ⟨rfl,hs,hE4,hO4,hgm,hall⟩;refine Wc.le ?_ (Le.kn hall);clear hall;simp only at hs hO4 hgm ⊢;refine ZBR fun hw4=>?_;refine zy ?_;refine zC (ZAU rfl rfl) (fun hsl=>?_) (fun hsl=>?_)
 ·have hs':s<L.length:=by omega
  obtain⟨b,o,oa,rfl,row,hrow0,hx⟩:=hS3.1 s hs';have hx2:row=rowW L[s]:=hx;clear hx;have htk:L.take (s+1)=L.take s++[L[s]]:=by rw[List.take_add_one,List.getElem?_eq_getElem hs'];rfl
  have hfl:(ZCB (L.take s)).length<=200:=Nat.le_trans (ZPk _) (by rw[List.length_take];omega);generalize L[s]=x at *;subst hx2;generalize L.take s=p at *;have hrow:=hE4.row hrow0;have hfs:=ZF8 p x;have hfm:=ZPp (l:=p) (k:=x.key);refine zy ?_;refine zD (A_ix Und.h Tsz.h rfl rfl) ?_;refine ZAJ rfl rfl Zr.h Tsz.h rfl (fun _=>rfl) rfl rfl rfl fun h5 hE5 hW5 hg5 hn5=>?_;refine zy ?_;refine zW (ZQt x _) fun h6 hE6=>?_;have k6:=hE6.get hg5;refine zy ?_;refine ZAJ rfl rfl Zr.h Tsz.h rfl (fun _=>rfl) rfl rfl rfl fun h7 hE7 hW7 hg7 hn7=>?_;have k7:=hE7.get k6;have hE57:=(hE5.trans hE6).trans hE7;have hbm:bm<h6.nx:=by
   have q1:=MapB.lt keyK hO4.p1 hw4;have q2:=(hE5.trans hE6).2.1;omega
  have hO7:=hO4.ext hE57;have hV:=hgm.val x.key;have hQ:=hgm.is x.key;generalize hy:(ZC4 p x.key).getD ZIY=y at hV;rw[ZLW] at hQ;refine zy ?_
  by_cases hc1:cntK p x.key=1
  ·rw[decide_eq_true hc1] at hQ
   have hfin:x.key ∉ ZCB p:=fun q=>by have:=hfm.1 q;omega
   rw[if_pos hc1] at hfs;refine zD (ZAZ keyK (k:=x.key) (v:=encW y) (q:=true) Und.h Zr.h rfl hO7.p1 rfl hV hQ) ?_;refine ZAJ rfl rfl Zr.h Tsz.h rfl (fun _=>rfl) rfl rfl rfl fun h8 hE8 hW8 hg8 hn8=>?_;have k8:=hE8.get k7;have j8:=hE8.get hg7;have hO8:=hO7.ext hE8;have hE38:=(hE4.trans hE57).trans hE8;refine zy ?_;refine ZGB keyK (k:=x.key) hw3 hE38 rfl rfl rfl rfl Und.h rfl hO8 rfl fun h9 hW9 hO9 hE9 hX9=>?_;have hgm9:ZE2 (delK x.key gl) (ZC4 (p++[x])):=hgm.del (ZNN (by omega));obtain⟨af,eaf,hSf,hnf⟩:=ZAF.rowsAt (enc:=rowK) (k:=2) (fun _=>rfl) hO9.p2 rfl;have k9:h9.get h6.nx=some (.cells (rowK x.key) 88 false):=hX9.get (show ¬h6.nx=bm by omega) j8
   subst eaf;refine zy ?_;refine zW (ZCt (k:=x.key) hSf.1 (by show _<_;omega)) fun h10 hE10=>?_;rw[decide_eq_false hfin];have k10:=hE10.get k9;refine zy ?_;have hO10:=(hO9.ext hE10).up2;have hE310:=hE9.trans hE10;refine ZBg rfl rfl Und.h Tsz.h Zr.h rfl rfl rfl rfl rfl fun h11 hE11 hW11 hg11 hn11=>?_;refine zy ?_;refine ZAo (k:=1) (l:=rowK x.key) hw3 (hE310.trans hE11) rfl rfl rfl rfl rfl Und.h inferInstance rfl rfl (hO10.ext hE11) (ZAs Und.h (by intro k;simp) (ZAP hg11 rfl)) rfl rfl (by omega) (by omega) fun v12 h12 hW12 hO12 hE12=>?_;refine zy ?_;refine⟨(s+1,v12,delK x.key gl),(by show L.length-(s+1)<L.length-s;omega),rfl,hs',hE12,?_,?_,rfl,rfl,rfl,rfl,rfl,rfl,rfl,trivial⟩
   ·simp only[htk,hfs,List.flatMap_append,List.flatMap_singleton,List.length_append,List.length_singleton]
    exact hO12.up2
   ·simp only[htk];exact hgm9
  rw[decide_eq_false hc1] at hQ;rw[if_neg hc1] at hfs;refine zD (ZAZ keyK (k:=x.key) (v:=encW y) (q:=false) Und.h Zr.h rfl hO7.p1 rfl hV hQ) ?_;refine ZAJ rfl rfl Zr.h Tsz.h rfl (fun _=>rfl) rfl rfl rfl fun h8 hE8 hW8 hg8 hn8=>?_;have k8:=hE8.get k7;have j8:=hE8.get hg7;have hO8:=hO7.ext hE8;have hE38:=(hE4.trans hE57).trans hE8;obtain⟨af,eaf,hSf,hnf⟩:=ZAF.rowsAt (enc:=rowK) (k:=2) (fun _=>rfl) hO8.p2 rfl;subst eaf;refine zy ?_;refine zW (ZCt (k:=x.key) hSf.1 (by show _<_;omega)) fun h9 hE9=>?_;have k9:=hE9.get k8;have j9:=hE9.get j8;have hO9:=hO8.ext hE9;have hE39:=hE38.trans hE9;have hb9:bm<h9.nx:=by have:=(hE7.trans (hE8.trans hE9)).2.1;omega
  by_cases hc0:cntK p x.key=0
  ·rw[decide_eq_false (fun q=>by have:=hfm.1 q;omega)]
   refine zy ?_;refine ZAy keyK (k:=x.key) (v:=encW x) hw3 hE39 rfl Und.h rfl hO9 rfl rfl fun h10 hW10 hO10 hE10=>?_;refine zy ?_;refine⟨(s+1,_,setK x.key (encW x) gl),(by show L.length-(s+1)<L.length-s;omega),rfl,hs',hE10,?_,?_,rfl,rfl,rfl,rfl,rfl,rfl,rfl,trivial⟩
   ·simp only[htk,hfs]
    exact hO10
   ·simp only[htk];exact hgm.set (ZSV hc0)
  have hfin:x.key∈ZCB p:=hfm.2 (by omega);rw[decide_eq_true hfin];refine zy ?_;refine ZGB keyK (k:=x.key) hw3 hE39 rfl rfl rfl rfl Und.h rfl hO9 rfl fun h10 hW10 hO10 hE10 hX10=>?_;have hgm9:ZE2 (delK x.key gl) (ZC4 (p++[x])):=hgm.del (ZNN (by omega));have k10:h10.get h6.nx=some (.cells (rowK x.key) 88 false):=hX10.get (show ¬h6.nx=bm by omega) j9;obtain⟨ag,eag,hSg,hng⟩:=ZAF.rowsAt (enc:=rowK) (k:=2) (fun _=>rfl) hO10.p2 rfl;cases eag;refine zy ?_;refine zW (ZCt (k:=x.key) hSg.1 (by show _<_;omega)) fun h11 hE11=>?_;rw[decide_eq_true hfin];refine zy ?_;refine⟨(s+1,_,delK x.key gl),(by show L.length-(s+1)<L.length-s;omega),rfl,hs',hE10.trans hE11,?_,?_,rfl,rfl,rfl,rfl,rfl,rfl,rfl,trivial⟩
  ·simp only[htk,hfs]
   exact hO10.ext hE11
  ·simp only[htk];exact hgm9
 have hs2:s=L.length:=by omega
 subst hs2;rw[List.take_length] at hO4 hgm;refine zy ?_;refine ZAN (fun (s:Nat×List (Key×Value)) m ds h'=>ds=[]/\s.1<=L.length/\Ext h3 h'/\Own h3 h' [mapI keyK bm s.2,slI h3 vf 88 2 ((ZCB L).flatMap rowK) (ZCB L).length]/\ZE2 s.2 (ZCc L (L.take s.1))/\AllK m [(0,.slice a3 L.length c3),(2,.slice none 0 0),(3,vf),(5,.map (some bm)),(67,.slice a3 L.length c3),(68,i64 L.length),(69,i64 (s.1:Nat))]) (fun s=>L.length-s.1) (0,gl) ?_ ?_
 ·refine⟨rfl,Nat.zero_le _,hE4,hO4,⟨hgm.1,fun k=>?_⟩,rfl,rfl,rfl,rfl,rfl,rfl,rfl,trivial⟩
  rw[hgm.2]
  show _=(ZCc L [] k).map encW
  rw[ZP2]
 clear hO4 hgm hE4 hw4;rintro⟨s,gl⟩ m ds h4 ⟨rfl,hs,hE4,hO4,hgm,hall⟩;refine Wc.le ?_ (Le.kn hall);clear hall;simp only at hs hO4 hgm ⊢;refine ZBR fun hw4=>?_;refine zy ?_;refine zC (ZAU rfl rfl) (fun hsl=>?_) (fun hsl=>?_)
 ·have hs':s<L.length:=by omega
  obtain⟨b,o,oa,rfl,row,hrow0,hx⟩:=hS3.1 s hs';have hx2:row=rowW L[s]:=hx;clear hx;have htk:L.take (s+1)=L.take s++[L[s]]:=by rw[List.take_add_one,List.getElem?_eq_getElem hs'];rfl
  have hxm:=List.getElem_mem hs';generalize L[s]=x at *;subst hx2;generalize L.take s=p at *;have hrow:=hE4.row hrow0;obtain⟨hxf,hxe⟩:=hLf x hxm;refine zy ?_;refine zD (A_ix Und.h Tsz.h rfl rfl) ?_;refine ZAJ rfl rfl Zr.h Tsz.h rfl (fun _=>rfl) rfl rfl rfl fun h5 hE5 hW5 hg5 hn5=>?_;refine zy ?_;refine zW (ZQt x _) fun h6 hE6=>?_;have k6:=hE6.get hg5;have hE56:=hE5.trans hE6;have hO6:=hO4.ext hE56;have hV:=hgm.val x.key;have hQ:=hgm.is x.key;have hE36:=hE4.trans hE56
  by_cases hD:ZHk L x=true
  ·obtain⟨d1,d2,d3⟩:=of_decide_eq_true hD
   have hN:=ZSU hxe d1;have hlx:=ZOF (p:=p) hxm d1 d2;rw[hlx] at hV hQ;have hst:=ZOt (p:=p) hD;refine zy ?_;refine zD (ZAZ keyK (k:=x.key) (v:=encW x) (q:=true) Und.h Zr.h rfl hO6.p1 rfl hV hQ) ?_;refine ZAJ rfl rfl Zr.h Tsz.h rfl (fun _=>rfl) rfl rfl rfl fun h8 hE8 hW8 hg8 hn8=>?_;have hO8:=hO6.ext hE8;refine zy ?_;refine zD (A_tt d1 (ZAg rfl rfl)) ?_;refine zD (A_tt d3 (ZBB rfl rfl)) ?_;refine zR (ZPY hxf.b ((hwl.ext hE36).ext hE8)) ?_;rintro v9 h9 ⟨hE9,⟨n,hn9,rfl⟩|⟨hno,-⟩⟩;rotate_left
   ·obtain⟨n,hn9,-⟩:=(ZMp _).1 hN
    exact absurd hn9 (hno n)
   have hnum:=ZTN hN hn9;have k9:=hE9.get hg8;have hO9:=hO8.ext hE9;refine zy ?_;refine ZAJ rfl rfl Zr.h Tsz.h rfl (fun _=>rfl) rfl rfl rfl fun h10 hE10 hW10 hg10 hn10=>?_;have hO10:=hO9.ext hE10;have hE310:=((hE36.trans hE8).trans hE9).trans hE10;have hV2:=hgm.val (tgtK x);generalize hz:(ZCc L p (tgtK x)).getD ZIY=z at hV2;have hkk:(Value.agg ⟨[str x.a,i64 n]⟩)=keyK.enc (tgtK x):=by rw[hnum];rfl
   refine zy ?_;refine zD (ZBN keyK (k:=tgtK x) (v:=encW z) Und.h Zr.h rfl hO10.p1 (by rw[<-hkk];rfl) hV2) ?_;refine zE (ZQF rfl rfl) ?_
   by_cases hz6:z.kind≠6
   ·refine zD (A_tt hz6 (ZAh rfl rfl)) ?_
    refine ZGB keyK (k:=tgtK x) hw3 hE310 rfl rfl rfl rfl Und.h rfl hO10 (by rw[<-hkk];rfl) fun h11 hW11 hO11 hE11 hX11=>?_;refine zy ?_;refine⟨(s+1,delK (tgtK x) gl),(by show L.length-(s+1)<L.length-s;omega),rfl,hs',hE11,hO11,?_,rfl,rfl,rfl,rfl,rfl,rfl,rfl,trivial⟩;simp only[htk];refine hgm.del fun k'=>?_;rw[hst]
    by_cases hk:k'=tgtK x
    ·have hall:∀y,ZCc L p k'=some y->y.kind≠6:=fun y hy=>by
      rw[hk] at hy;rw[hy] at hz;rw[show y=z from hz];exact hz6
     rw[if_pos hk,if_pos ⟨hk,hall⟩]
    ·rw[if_neg hk,if_neg fun q=>hk q.1]
   ·refine zD (A_ff hz6 (ZAh rfl rfl)) ?_
    refine⟨(s+1,gl),(by show L.length-(s+1)<L.length-s;omega),rfl,hs',hE310,hO10,?_,rfl,rfl,rfl,rfl,rfl,rfl,rfl,trivial⟩;simp only[htk];refine⟨hgm.1,fun k'=>?_⟩;rw[hgm.2,hst,if_neg];rintro⟨hk,hall⟩;rw[hk] at hall
    cases hlz:ZCc L p (tgtK x) with
    | none =>
     rw[hlz] at hz;rw[<-show ZIY=z from hz] at hz6;exact hz6 (by decide)
    | some y =>
     rw[hlz] at hz;rw[<-show y=z from hz] at hz6;exact hz6 (hall y hlz)
  have hDf:ZHk L x=false:=by simpa using hD
  have hst:=ZOL (p:=p) hDf;have hfin:ZE2 gl (ZCc L (p++[x])):=⟨hgm.1,fun k'=>by rw[hst];exact hgm.2 k'⟩
  cases hlx:ZCc L p x.key with
  | none =>
   rw[hlx] at hV hQ;refine zy ?_;refine zD (ZAZ keyK (k:=x.key) (v:=encW ZIY) (q:=false) Und.h Zr.h rfl hO6.p1 rfl hV hQ) ?_;refine ZAJ rfl rfl Zr.h Tsz.h rfl (fun _=>rfl) rfl rfl rfl fun h8 hE8 hW8 hg8 hn8=>?_;refine zy ?_;refine⟨(s+1,gl),(by show L.length-(s+1)<L.length-s;omega),rfl,hs',hE36.trans hE8,hO6.ext hE8,?_,rfl,rfl,rfl,rfl,rfl,rfl,rfl,trivial⟩;simp only[htk];exact hfin
  | some y =>
   obtain⟨rfl,hc1⟩:=ZS8 hxm hlx;rw[hlx] at hV hQ;refine zy ?_;refine zD (ZAZ keyK (k:=y.key) (v:=encW y) (q:=true) Und.h Zr.h rfl hO6.p1 rfl hV hQ) ?_;refine ZAJ rfl rfl Zr.h Tsz.h rfl (fun _=>rfl) rfl rfl rfl fun h8 hE8 hW8 hg8 hn8=>?_;refine zy ?_
   by_cases h6:y.kind=6
   ·have ha:¬y.a=y.archive:=fun q=>hD (decide_eq_true ⟨h6,hc1,q⟩)
    refine zD (A_tt h6 (ZAg rfl rfl)) ?_;refine zD (A_ff ha (ZBB rfl rfl)) ?_;refine⟨(s+1,gl),(by show L.length-(s+1)<L.length-s;omega),rfl,hs',hE36.trans hE8,hO6.ext hE8,?_,rfl,rfl,rfl,rfl,rfl,rfl,rfl,trivial⟩;simp only[htk];exact hfin
   ·refine zD (A_ff h6 (ZAg rfl rfl)) ?_
    refine⟨(s+1,gl),(by show L.length-(s+1)<L.length-s;omega),rfl,hs',hE36.trans hE8,hO6.ext hE8,?_,rfl,rfl,rfl,rfl,rfl,rfl,rfl,trivial⟩;simp only[htk];exact hfin
 have hs2:s=L.length:=by omega
 subst hs2;rw[List.take_length] at hgm;replace hO4:=hO4.nilSl 45 6;refine zy ?_;refine ZAN (fun (s:Nat×Value) m ds h'=>ds=[]/\s.1<=L.length/\Ext h3 h'/\Own h3 h' [slI h3 s.2 45 6 (((L.take s.1).filter (ZEI L)).flatMap rowW) ((L.take s.1).filter (ZEI L)).length,mapI keyK bm gl,slI h3 vf 88 2 ((ZCB L).flatMap rowK) (ZCB L).length]/\AllK m [(0,.slice a3 L.length c3),(2,s.2),(3,vf),(5,.map (some bm)),(111,.slice a3 L.length c3),(112,i64 L.length),(113,i64 (s.1:Nat))]) (fun s=>L.length-s.1) (0,.slice none 0 0) ?_ ?_
 ·exact⟨rfl,Nat.zero_le _,hE4,hO4,rfl,rfl,rfl,rfl,rfl,rfl,rfl,trivial⟩
 clear hO4 hE4 hw4;rintro⟨s,vs⟩ m ds h4 ⟨rfl,hs,hE4,hO4,hall⟩;refine Wc.le ?_ (Le.kn hall);clear hall;simp only at hs hO4 ⊢;refine ZBR fun hw4=>?_;refine zy ?_;refine zC (ZAU rfl rfl) (fun hsl=>?_) (fun hsl=>?_);rotate_left
 ·have hs2:s=L.length:=by omega
  subst hs2;rw[List.take_length] at hO4;obtain⟨aS,eas,hSs,hns⟩:=ZAF.rowsAt (enc:=rowW) (k:=6) (fun _=>rfl) hO4.p1 rfl;obtain⟨af,eaf,hSf,hnf⟩:=ZAF.rowsAt (enc:=rowK) (k:=2) (fun _=>rfl) hO4.p3 rfl;have hFs:=ZAF.base (h0:=h) hO4.p1 hE13.2.1;have hFf:=ZAF.base (h0:=h) hO4.p3 hE13.2.1;subst eas;subst eaf;refine zy ?_;exact ZAC (ZAD rfl ⟨.inr ⟨hc0,_,_,rfl,hFs,hFf⟩,hE13.trans hE4⟩)
 have hs':s<L.length:=by omega
 obtain⟨b,o,oa,rfl,row,hrow0,hx⟩:=hS3.1 s hs';have hx2:row=rowW L[s]:=hx;clear hx;have htk:L.take (s+1)=L.take s++[L[s]]:=by rw[List.take_add_one,List.getElem?_eq_getElem hs'];rfl
 have hxm:=List.getElem_mem hs';have hpl:((L.take s).filter (ZEI L)).length<=200:=Nat.le_trans (List.length_filter_le _ _) (by rw[List.length_take];omega);generalize L[s]=x at *;subst hx2;generalize L.take s=p at *;have hrow:=hE4.row hrow0;have hsb:=ZMF hxm;have hfi:(p++[x]).filter (ZEI L)=p.filter (ZEI L)++if ZEI L x=true then [x] else []:=by
  rw[List.filter_append]
  congr 1
  by_cases q:ZEI L x=true <;> simp[q]
 refine zy ?_;refine zD (A_ix Und.h Tsz.h rfl rfl) ?_;refine ZAJ rfl rfl Zr.h Tsz.h rfl (fun _=>rfl) rfl rfl rfl fun h5 hE5 hW5 hg5 hn5=>?_;refine zy ?_;refine zW (ZQt x _) fun h6 hE6=>?_;have k6:=hE6.get hg5;have hE56:=hE5.trans hE6;have hO6:=hO4.ext hE56;have hV:=hgm.val x.key;have hQ:=hgm.is x.key;have hE36:=hE4.trans hE56;generalize hy:(ZCc L L x.key).getD ZIY=y at hV
 cases hq:(ZCc L L x.key).isSome with
 | false =>
  rw[hq] at hQ hsb;rw[hsb] at hfi;simp only[Bool.false_and,Bool.false_eq_true,if_false,List.append_nil] at hfi;refine zy ?_;refine zD (ZAZ keyK (k:=x.key) (v:=encW y) (q:=false) Und.h Zr.h rfl hO6.p2 rfl hV hQ) ?_;refine ZAJ rfl rfl Zr.h Tsz.h rfl (fun _=>rfl) rfl rfl rfl fun h8 hE8 hW8 hg8 hn8=>?_;refine zy ?_;refine⟨(s+1,vs),(by show L.length-(s+1)<L.length-s;omega),rfl,hs',hE36.trans hE8,?_,rfl,rfl,rfl,rfl,rfl,rfl,rfl,trivial⟩;simp only[htk,hfi];exact hO6.ext hE8
 | true =>
  rw[hq] at hQ hsb;refine zy ?_;refine zD (ZAZ keyK (k:=x.key) (v:=encW y) (q:=true) Und.h Zr.h rfl hO6.p2 rfl hV hQ) ?_;refine ZAJ rfl rfl Zr.h Tsz.h rfl (fun _=>rfl) rfl rfl rfl fun h8 hE8 hW8 hg8 hn8=>?_;have k8:=hE8.get k6;refine zy ?_
  by_cases h6:x.kind≠6
  rotate_left
  ·refine zE (A_ff h6 (ZAh rfl rfl)) ?_
   rw[hsb] at hfi;simp only[h6,decide_false,Bool.and_false,Bool.false_eq_true,if_false,List.append_nil] at hfi;refine zy ?_;refine⟨(s+1,vs),(by show L.length-(s+1)<L.length-s;omega),rfl,hs',hE36.trans hE8,?_,rfl,rfl,rfl,rfl,rfl,rfl,rfl,trivial⟩;simp only[htk,hfi];exact hO6.ext hE8
  refine zE (A_tt h6 (ZAh rfl rfl)) ?_;rw[hsb,decide_eq_true h6] at hfi;simp only[Bool.and_self,if_true] at hfi;have hO8:=hO6.ext hE8;have hE38:=hE36.trans hE8;refine zy ?_;refine ZBg rfl rfl Und.h Tsz.h Zr.h rfl rfl rfl rfl rfl fun h11 hE11 hW11 hg11 hn11=>?_;refine zy ?_;refine ZAo (k:=1) (l:=rowW x) hw3 (hE38.trans hE11) rfl rfl rfl rfl rfl Und.h inferInstance rfl rfl (hO8.ext hE11) (ZAs Und.h (by intro k;simp) (ZAP hg11 rfl)) rfl rfl (by omega) (by omega) fun v12 h12 hW12 hO12 hE12=>?_;refine zy ?_;refine⟨(s+1,v12),(by show L.length-(s+1)<L.length-s;omega),rfl,hs',hE12,?_,rfl,rfl,rfl,rfl,rfl,rfl,rfl,trivial⟩
  simp only[htk,hfi,List.flatMap_append,List.flatMap_singleton,List.length_append,List.length_singleton];exact hO12
theorem ZGS {a:Option Addr}{cap:Nat}{l:List WkR}{h:Heap}(hR:SrcK rowW 6 h a l)(hn:a=none->l=[]/\cap=0)(hf:∀x∈l,x.Fit)(hlen:Len l)(hL:WkLib h) :
  Sv Tryz.prog 29 [.slice a l.length cap] h (RetP fun v h'=>ZKq l v h'/\Ext h h') :=
 (ZSm hR hn hf hlen hL).mono fun r hr=>by
  cases r with
  | ret v h'=>exact⟨hr.1.r,hr.2⟩
  | pan v h'=>exact hr
  | no=>exact hr
theorem ZMJ {a:Option Addr}{cap:Nat}{l:List WkR}{h:Heap}(hR:SrcK rowW 6 h a l)(hn:a=none->l=[]/\cap=0)(hf:∀x∈l,x.Fit)(hlen:Len l)(hL:WkLib h) :
  Sv Tryz.prog 21 [.slice a l.length cap] h (RetP fun v h'=>ZKq l v h'/\Ext h h'):=by
 refine ZAG Tryz.func21 rfl (by rw[Tryz.ntmps21];rfl) ?_;show Wc Tryz.prog ⟨21,10,none⟩ _ _ _ _ _;refine zy ?_;refine zR (ZGS hR hn hf hlen hL) ?_;rintro v h1 ⟨hO,hE⟩;have hO':=hO
 rcases hO with ⟨hc,rfl⟩|⟨hc,aS,af,rfl,h2⟩
 ·refine zy ?_
  exact ZAC (ZAD rfl ⟨hO',hE⟩)
 ·refine zy ?_
  exact ZAC (ZAD rfl ⟨hO',hE⟩)
theorem ZOG {a ak:Option Addr}{n cap nk ck:Nat}{h:Heap}:Sv Tryz.prog 47 [.slice a n cap,.slice ak nk ck] h (RetP fun v h'=>∃c1 c2,v=.func (.func 86) ⟨[]⟩ ⟨[.pointer (some ⟨c1,0,none⟩),.pointer (some ⟨c2,0,none⟩)]⟩/\Ext h h'/\Own h h' [ceI c1 [.slice a n cap] 90 false,ceI c2 [.slice ak nk ck] 46 false]):=by
 refine ZA5 fun hw=>?_;refine ZAG Tryz.func47 rfl (by rw[Tryz.ntmps47];rfl) ?_;show Wc Tryz.prog ⟨47,6,none⟩ _ _ _ _ _;refine zy ?_;refine ZAn rfl rfl rfl fun h1 hE1 hW1 hg1 hn1=>?_;refine zy ?_;refine ZAn rfl rfl rfl fun h2 hE2 hW2 hg2 hn2=>?_;have hO:=(((Own.nil h h).newCe hw (Nat.le_refl _) hE1 hg1 (Nat.le_refl _)).newCe hW1 hE1.2.1 hE2 hg2 (Nat.le_refl _)).up2;refine zy ?_;exact ZAC (ZAD rfl ⟨_,_,rfl,hE1.trans hE2,hO⟩)
set_option maxHeartbeats 1000000 in
theorem ZMh {σ:Type}{X:σ->List It}{h0:Heap}{c1 c2 bk cap:Nat}{a:Option Addr}{sp:Option Nat}{op:Bool}{s:List WkR}{ks:List Int}(hR:SrcK rowW 6 h0 a s)(hls:Len s)(hlk:Len ks)
  (hX:∀st,ceI c1 [.slice a s.length cap] 90 false∈X st/\ceI c2 [.slice (some ⟨bk,0,sp⟩) ks.length ks.length] 46 false∈X st/\ceI bk (ks.map i64) 3 op∈X st) :
  ZPf Tryz.prog 86 [.pointer (some ⟨c1,0,none⟩),.pointer (some ⟨c2,0,none⟩)] h0 X (ofK ks s) encW:=by
 intro l hL J hJ0 hJd hJe hy
 have hgot:∀{pre h'},J pre h'->Ext h0 h'/\h'.get c1=some (.cells [.slice a s.length cap] 90 false)/\h'.get c2=some (.cells [.slice (some ⟨bk,0,sp⟩) ks.length ks.length] 46 false)/\h'.get bk=some (.cells (ks.map i64) 3 op):=fun {pre h'} hJ=>by
  obtain⟨hE,st,R,hO⟩:=hJd pre h' hJ;obtain⟨x1,x2,x3⟩:=hX st;exact⟨hE,hO.has _ (List.mem_append_left _ x1),hO.has _ (List.mem_append_left _ x2),hO.has _ (List.mem_append_left _ x3)⟩
 obtain⟨hE0,hg1,hg2,hg3⟩:=hgot hJ0;refine ZAG Tryz.func86 rfl (by rw[Tryz.ntmps86];rfl) ?_;show Wc Tryz.prog ⟨86,23,none⟩ _ _ _ _ _;refine zy ?_;refine ZAN (fun (i:Nat) m ds h'=>ds=[]/\i<=s.length/\J (ofK ks (s.take i)) h'/\AllK m [(0,.func (.yield l) ⟨[]⟩ ⟨[]⟩),(1,.pointer (some ⟨c1,0,none⟩)),(2,.pointer (some ⟨c2,0,none⟩)),(6,.slice a s.length cap),(7,i64 s.length),(8,i64 (i:Nat))]) (fun i=>s.length-i) 0 ?_ ?_
 ·exact⟨rfl,Nat.zero_le _,hJ0,rfl,rfl,rfl,rfl,rfl,rfl,trivial⟩
 clear hE0 hg1 hg2 hg3 hJ0;rintro i m ds h1 ⟨rfl,hi,hJ1,hall⟩;refine Wc.le ?_ (Le.kn hall);clear hall;refine zy ?_;refine zC (ZAU rfl rfl) (fun hil=>?_) (fun hil=>?_);rotate_left
 ·have:i=s.length:=by omega
  subst this;rw[List.take_length] at hJ1;refine zy ?_;exact ZAz rfl hJ1
 have hi':i<s.length:=by omega
 obtain⟨hE1,hg1,hg2,hg3⟩:=hgot hJ1;obtain⟨b,o,oa,rfl,row,hrow0,hx⟩:=hR.1 i hi';have hrow:=hE1.row hrow0;have hx2:row=rowW s[i]:=hx;have htk:s.take (i+1)=s.take i++[s[i]]:=by rw[List.take_add_one,List.getElem?_eq_getElem hi'];rfl
 have hsp:s[i].kind∈ks->ofK ks s=ofK ks (s.take i)++s[i]::ofK ks (s.drop (i+1)):=fun hk=>by
  have:s=s.take i++(s[i]::s.drop (i+1)):=by rw[<-List.drop_eq_getElem_cons hi',List.take_append_drop]
  conv=>lhs;rw[this]
  unfold ofK;rw[List.filter_append,List.filter_cons,if_pos (decide_eq_true hk)]
 clear hx hrow0;have hof:ofK ks (s.take i++[s[i]])=ofK ks (s.take i)++if s[i].kind∈ks then [s[i]] else []:=by
  unfold ofK;rw[List.filter_append]
  congr 1
  by_cases q:s[i].kind∈ks <;> simp[q]
 have hint:ZAi i64 h1 (some ⟨bk,0,sp⟩) ks:=fun j hj=>⟨bk,0,sp,rfl,by
  rw[Nat.zero_add];exact ZAb hg3 (by rw[ZAv,Nat.mul_one,List.getElem?_map,List.getElem?_eq_getElem hj];rfl)⟩
 generalize s[i]=x at *;subst hx2;refine zy ?_;refine zD (A_ix Und.h Tsz.h rfl rfl) ?_;refine ZAJ rfl rfl Zr.h Tsz.h rfl (fun _=>rfl) rfl rfl rfl fun h2 hE2 hW2 hg22 hn2=>?_;have k2:=hE2.get hg2;have hJ2:=hJe _ _ _ hJ1 hE2;have hin2:ZAi i64 h2 (some ⟨bk,0,sp⟩) ks:=hint.ext hE2;refine zy ?_;refine zU (ZHJ (k:=x.kind) hin2 hlk) ?_
 by_cases hk:x.kind∈ks
 ·rw[if_pos hk] at hof
  rw[decide_eq_true hk];refine zy ?_;refine ZJy rfl rfl rfl rfl rfl rfl rfl (hy _ x _ h2 (hsp hk) hJ2) ?_;rintro _ h3 ⟨rfl,hJ3⟩;refine zy ?_;exact⟨i+1,(by show s.length-(i+1)<s.length-i;omega),rfl,hi',(by rw[htk,hof];exact hJ3),rfl,rfl,rfl,rfl,rfl,rfl,trivial⟩
 ·rw[if_neg hk,List.append_nil] at hof
  rw[decide_eq_false hk];refine zy ?_;exact⟨i+1,(by show s.length-(i+1)<s.length-i;omega),rfl,hi',(by rw[htk,hof];exact hJ2),rfl,rfl,rfl,rfl,rfl,rfl,trivial⟩
abbrev xB90:List Nat:=[0,0,0,0,12,0,32,124,255]
abbrev xB91:List Nat:=[0,1,2,3,4,5,6,7]
abbrev xB92:List Nat:=[0,1,2,3,4,5,6]
abbrev WebG:=List (Str×Value×List Str)
noncomputable def webX (h0:Heap)(bm b3:Nat)(G:WebG):List It:=mapI strK bm (kvG G)::ceI b3 [.map (some bm)] 112 false::slG encT 9 1 h0 G
set_option maxHeartbeats 4000000 in
theorem ZTM {h0 h:Heap}{bm b3:Nat}{G:WebG}{I:List It}{a b:Str}(hw0:WF h0)(hE:Ext h0 h)(hO:Own h0 h (webX h0 bm b3 G++I))(ha:(rawG a G).length<=10000)(hb:(rawG b G).length<=10000) :
  Sv Tryz.prog 84 [str a,str b,.pointer (some ⟨b3,0,none⟩)] h (RetP fun _ h'=>∃va vb,Own h0 h' (webX h0 bm b3 (setG b vb (rawG b (setG a va (rawG a G++[b]) G)++[a]) (setG a va (rawG a G++[b]) G))++I)/\Ext h0 h'):=by
 have hsw:∀(h:Heap) (G:WebG),Own h0 h (webX h0 bm b3 G++I)->Own h0 h ((mapI strK bm (kvG G)::ceI b3 [.map (some bm)] 112 false::I)++slG encT 9 1 h0 G):=fun h G hO=>hO.perm (List.Perm.cons _ (List.Perm.cons _ List.perm_append_comm));have hsw2:∀(h:Heap) (G:WebG),Own h0 h ((mapI strK bm (kvG G)::ceI b3 [.map (some bm)] 112 false::I)++slG encT 9 1 h0 G)->Own h0 h (webX h0 bm b3 G++I):=fun h G hO=>hO.perm (List.Perm.cons _ (List.Perm.cons _ List.perm_append_comm));refine ZAG Tryz.func84 rfl (by rw[Tryz.ntmps84];rfl) ?_;show Wc Tryz.prog ⟨84,21,none⟩ _ _ _ _ _;refine ZBR fun hw=>?_;obtain⟨R,ht1,ht2⟩:=ZFu encT 9 1 h0 a G
 have hmap:MapB strK h bm (kvG G):=hO.p1;have hg3:h.get b3=some (.cells [.map (some bm)] 112 false):=hO.p2;have hO1:=ht1 _ _ (hsw _ _ hO);generalize hv:(lkp a (kvG G)).getD (.slice none 0 0)=v0 at hO1;generalize hr:rawG a G=r0 at *;have hEa:Ext h (Heap.add h (.cells [str b] 9 false)):=Ext.add hw _;have hn:=hE.2.1;have hF1:ZAF h0 (Heap.add h (.cells [str b] 9 false)) (.slice (some ⟨h.nx,0,none⟩) 1 1) 9 1 [str b] 1:=ZAF.lit Heap.get_add_same rfl hn;have hlen1:(r0++[b]).flatMap encT=r0.flatMap encT++[str b]:=by rw[List.flatMap_append];rfl
 have hga:=hEa.get hg3;refine zy ?_;refine ZAL hmix xB90 xB92 (some 7) [([],(some 8)),([],none)] (by kernel_rfl) (by kernel_rfl) ?_;refine z_l ?_;refine z_m ?_;refine z_l ?_;refine z_m ?_;refine ZAB rfl rfl rfl rfl rfl (fun _=>ZBN strK (k:=a) (v:=v0) Und.h Zr.h rfl hmap rfl hv) ?_;refine z_m ?_;refine ZDS (nk:=.sl _ _) rfl rfl rfl rfl rfl (fun _ _ hs=>N_bs hs Und.h Tsz.h Zr.h rfl rfl rfl rfl rfl) ?_;refine ZAI (h1:=(Heap.add h _)) [2,3,4,5,6] (by kernel_rfl) rfl (ZAA rfl) rfl rfl rfl (ZAu (ZCh (by':=16) (sz:=1) (k:=1) (n:=r0.length) (l:=[str b]) rfl hw0 (hE.trans hEa) rfl rfl rfl rfl Und.h inferInstance rfl rfl (hO1.ext hEa) (hF1.src (dd:=.slice 9) Und.h (by intro k;simp)) rfl rfl (by omega) (by omega) (fun v2 h2 hO2 hE2 hw2=>?_)))
 have hO3:=ht2 h2 _ v2 (r0++[b]) (by rw[hlen1,List.length_append];exact hO2);have hg32:h2.get b3=some (.cells [.map (some bm)] 112 false):=hO3.p2;refine ZAI (h1:=h2) xB91 (by kernel_rfl) rfl (by refine t_m 1 ?_;refine t_l 0 ?_;exact ZAA rfl) rfl rfl rfl (ZAu (ZCd strK (k:=a) (v:=v2) rfl hw0 hE2 rfl Und.h rfl hO3 rfl rfl (fun h3 hO4 hE3 hw3=>?_)));refine ZAO (ZAA rfl) rfl ?_;rw[<-ZCa a v2 (r0++[b])] at hO4;have hb1:(rawG b (setG a v2 (r0++[b]) G)).length<=10001:=by
  rw[ZGF]
  split
  ·rw[List.length_append];show r0.length+1<=10001;omega
  ·omega
 generalize hG1:setG a v2 (r0++[b]) G=G1 at *;clear ht1 ht2 hO1 hmap hg3 hO hF1 hv hlen1 hga hEa hn hO2 hO3;obtain⟨R,ht1,ht2⟩:=ZFu encT 9 1 h0 b G1;have hmap:MapB strK h3 bm (kvG G1):=hO4.p1;have hg3:h3.get b3=some (.cells [.map (some bm)] 112 false):=hO4.p2;have hO1:=ht1 _ (mapI strK bm (kvG G1)::ceI b3 [.map (some bm)] 112 false::I) hO4;generalize hv:(lkp b (kvG G1)).getD (.slice none 0 0)=v1 at hO1;generalize hr1:rawG b G1=r1 at *;have hEa:Ext h3 (Heap.add h3 (.cells [str a] 9 false)):=Ext.add hw3 _;have hn:=hE3.2.1;have hF1:ZAF h0 (Heap.add h3 (.cells [str a] 9 false)) (.slice (some ⟨h3.nx,0,none⟩) 1 1) 9 1 [str a] 1:=ZAF.lit Heap.get_add_same rfl hn
 have hlen1:(r1++[a]).flatMap encT=r1.flatMap encT++[str a]:=by rw[List.flatMap_append];rfl
 have hga:=hEa.get hg3;refine zy ?_;refine ZAL hmix xB90 xB92 (some 7) [([],(some 8)),([],none)] (by kernel_rfl) (by kernel_rfl) ?_;refine z_l ?_;refine z_m ?_;refine z_l ?_;refine z_m ?_;refine ZAB rfl rfl rfl rfl rfl (fun _=>ZBN strK (k:=b) (v:=v1) Und.h Zr.h rfl hmap rfl hv) ?_;refine z_m ?_;refine ZDS (nk:=.sl _ _) rfl rfl rfl rfl rfl (fun _ _ hs=>N_bs hs Und.h Tsz.h Zr.h rfl rfl rfl rfl rfl) ?_;refine ZAI (h1:=(Heap.add h3 _)) [2,3,4,5,6] (by kernel_rfl) rfl (ZAA rfl) rfl rfl rfl (ZAu (ZCh (by':=16) (sz:=1) (k:=1) (n:=r1.length) (l:=[str a]) rfl hw0 (hE3.trans hEa) rfl rfl rfl rfl Und.h inferInstance rfl rfl (hO1.ext hEa) (hF1.src (dd:=.slice 9) Und.h (by intro k;simp)) rfl rfl (by omega) (by omega) (fun v4 h4 hO2 hE4 hw4=>?_)))
 have hO3:=ht2 h4 _ v4 (r1++[a]) (by rw[hlen1,List.length_append];exact hO2);have hg34:h4.get b3=some (.cells [.map (some bm)] 112 false):=hO3.p2;refine ZAI (h1:=h4) xB91 (by kernel_rfl) rfl (by refine t_m 1 ?_;refine t_l 0 ?_;exact ZAA rfl) rfl rfl rfl (ZAu (ZCd strK (k:=b) (v:=v4) rfl hw0 hE4 rfl Und.h rfl hO3 rfl rfl (fun h5 hO5 hE5 hw5=>?_)));refine ZAO (ZAA rfl) rfl ?_;rw[<-ZCa b v4 (r1++[a])] at hO5;refine zy ?_;exact ZAz rfl ⟨v2,v4,hsw2 _ _ (by rw[hG1,hr1];exact hO5),hE5⟩
end Go.Dw
