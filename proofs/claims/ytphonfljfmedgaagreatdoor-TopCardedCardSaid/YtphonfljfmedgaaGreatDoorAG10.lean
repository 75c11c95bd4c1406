/- B1: contracts: the library's sorting of records and of strings, by functions that compare. -/
import Derived.Shelf.SlSortCmp.NoneTotal
import Derived.Test.YtphonfljfmedgaaGreatDoorAG8
import Derived.Test.YtphonfljfmedgaaGreatDoorAG2
set_option linter.unusedVariables false
set_option linter.unusedSimpArgs false
namespace Go.Dw
open Go Go.Dx Go.Proofs Go.Sort Go.RowKit Go.Lib
set_option maxRecDepth 100000
theorem ZNj {P:Program}{g:FuncId}{args:List Value}{v:Value}(hfa:ZBZ args=true)(hfv:flat v=true)(hs:∀h,Sv P g args h (RetP fun r h'=>r=v/\Ext h h'))(W:World) :
  Calls P g args.toArray W fun e w'=>e=.returned v/\∃q os,w'=grow (W.drewN q) os:=by
 have hget:∀b,(⟨.e,0,0⟩:Heap).get b=none:=fun b=>by unfold Heap.get;exact ZRy b
 have hr:HR (fun _=>none) ⟨.e,0,0⟩ W.heap :=
  ⟨(fun b o h=>by rw[hget] at h;cases h),(fun b b' o o' bi bi' h=>by rw[hget] at h;cases h),(fun b bi h=>nomatch h),(fun g bi _ h=>nomatch h),Nat.le_refl _⟩
 have hnr:∀c,¬Rg (fun _=>none) (⟨.e,0,0⟩:Heap) c:=by
  rintro c ⟨b,o,bi,h1,_⟩;rw[hget] at h1;cases h1
 refine ((hs ⟨.e,0,0⟩).w (fun _=>none) W args.toArray hr (VRL.of_flat _ hfa)).mono ?_;rintro e w' ⟨r,hR,hP⟩
 cases r with
 | ret u h' =>
  obtain⟨rfl,-⟩:=hR;obtain⟨ι',v',rfl,hv,_,ha⟩:=hP;have e2:=hv.flat_eq hfv;subst e2;refine⟨rfl,w'.drawn-W.drawn,w'.heap.extract W.heap.size w'.heap.size,?_⟩;obtain⟨d1,d2⟩:=ha.dr rfl;have hsz:=ha.sz;have hb:∀k,k<W.heap.size->w'.heap[k]?=W.heap[k]?:=fun k hk=>ha.fr k hk (hnr k);have eo:=ha.os;have eu:=ha.out;obtain⟨heap',tape',drawn',os',output'⟩:=w';simp only at d1 d2 hsz hb eo eu;subst d1 eo eu;have eh:heap'=W.heap++heap'.extract W.heap.size heap'.size:=by
   apply Array.ext_getElem?;intro k
   by_cases hk:k<W.heap.size
   ·rw[Array.getElem?_append_left hk];exact hb k hk
   ·rw[Array.getElem?_append_right (by omega),Array.getElem?_extract]
    by_cases hk2:k<heap'.size
    ·rw[if_pos (by omega)];congr 1;omega
    ·rw[if_neg (by omega),Array.getElem?_eq_none (by omega)]
  have ed:W.drawn+(drawn'-W.drawn)=drawn':=by omega
  unfold grow World.drewN;simp only;rw[ed]
  congr 1
 | pan v h'=>exact hR.elim
 | no=>exact hR.elim
section
variable {α:Type} [Inhabited α]{enc:α->Value}{w:World}{blk n:Nat}{os:Array Obj}{c:Array Value}{el:TypeId}{d:Array α}
theorem ZO2 (hb:w.heap[blk]?=some (.cells c el (0,0))):w.heap.size<=(grow (putRow enc (Sort.ahead w n) blk 0 d) os).heap.size/\∀k,k<w.heap.size->(grow (putRow enc (Sort.ahead w n) blk 0 d) os).heap[k]?=(w.heap.setIfInBounds blk (.cells (putCells enc 0 d c) el (0,0)))[k]?:=by
 refine⟨by simp,fun k hk=>?_⟩;rw[heap_grow_old _ _ (by simpa using hk)];obtain⟨h1,h2⟩:=Array.getElem?_eq_some_iff.1 hb;rw[Array.getElem?_setIfInBounds]
 by_cases e:blk=k
 ·subst e
  rw[if_pos rfl,if_pos hk];simp[putRow,mapBlock,Sort.ahead,Array.getElem?_modify,onCells,hb]
 ·rw[if_neg e]
  simp[putRow,mapBlock,Sort.ahead,Array.getElem?_modify,e]
theorem ZJB:(putCells enc 0 d c).size=c.size:=by simp[putCells]
theorem ZIr (h:d.size<=c.size):(putCells enc 0 d c).toList.take d.size=d.toList.map enc:=by
 apply List.ext_getElem?;intro j
 by_cases hj:j<d.size
 ·rw[List.getElem?_take_of_lt hj,Array.getElem?_toList]
  simp[putCells,hj,show j<c.size by omega,getElem!_pos d j hj]
 ·rw[List.getElem?_take_eq_none (by omega),List.getElem?_eq_none (by simp;omega)]
theorem ZRT (hb:w.heap[blk]?=some (.cells c el (0,0)))(ht:c.toList.take d.size=d.toList.map enc):Holds enc w blk 0 d:=by
 intro j hj;refine⟨?_,by simp[World.frozen?,hb]⟩;have h1:(c.toList.take d.size)[j]?=(d.toList.map enc)[j]?:=by rw[ht]
 rw[List.getElem?_take_of_lt hj] at h1;simp only[World.cell?,hb,Nat.zero_add];simp only[Option.isSome_none,Bool.false_eq_true,if_false];rw[<-Array.getElem?_toList,h1];simp[hj,getElem!_pos d j hj]
end
theorem ZH5 {α:Type} [Inhabited α]{enc:α->List Value}{k:Nat}(hk0:0<k)(hk:∀x,(enc x).length=k)(d:Array α):(flatK enc k d).toList=d.toList.flatMap enc:=by
 have hlen:∀l:List α,(l.flatMap enc).length=l.length*k:=by
  intro l
  induction l with
  | nil=>simp
  | cons x l ih=>rw[List.flatMap_cons,List.length_append,ih,hk,List.length_cons,Nat.succ_mul];omega
 apply List.ext_getElem?;intro t
 by_cases ht:t<d.size*k
 ·have hi:t / k<d.toList.length:=by rw[Array.length_toList];exact (Nat.div_lt_iff_lt_mul hk0).2 ht
  have h1:=ZFT (f:=enc) (k:=k) (P:=d.toList) hi fun x _=>hk x;have hmod:=Nat.mod_lt t hk0;have hdm:t / k*k+t % k=t:=by rw[Nat.mul_comm];exact Nat.div_add_mod t k
  have hle:t / k*k+k<=d.size*k:=by
   have:(t / k+1)*k<=d.size*k:=Nat.mul_le_mul_right _ (by rw[Array.length_toList] at hi;exact hi);rw[Nat.add_mul,Nat.one_mul] at this;exact this
  rw[ZEA (by rw[hlen,Array.length_toList];exact hle)] at h1;have h2:((List.drop (t / k*k) (d.toList.flatMap enc)).take k)[t % k]?=(enc d.toList[t / k])[t % k]?:=congrArg (fun l:List Value=>l[t % k]?) (Option.some.inj h1);rw[List.getElem?_take_of_lt hmod,List.getElem?_drop,hdm] at h2;rw[h2,Array.getElem?_toList,Array.getElem?_eq_getElem (by simpa using ht)];have h3:=get_flatK enc k d t ht;rw[getElem!_pos _ t (by simpa using ht)] at h3;rw[h3,getElem!_pos d (t / k) (by rw[Array.length_toList] at hi;exact hi),Array.getElem_toList,List.getElem?_eq_getElem (by rw[hk];exact hmod),getElem!_pos _ _ (by rw[hk];exact hmod)]
 ·rw[List.getElem?_eq_none (by simp;omega),List.getElem?_eq_none (by rw[hlen,Array.length_toList];omega)]
end Go.Dw
namespace Go.Dw
open Go Go.Dx Go.Proofs Go.Sort
set_option maxRecDepth 100000
def SrcK {α:Type}(enc:α->List Value)(k:Nat)(h:Heap)(a:Option Addr)(l:List α):Prop:=ZAV k (fun _ row x=>row=enc x) h a l/\(l=[]->a=none\/(∃b o,a=some ⟨b,o,some 0⟩)\/∃b o oa,a=some ⟨b,o,oa⟩/\ZBC h b o 0=some [])
theorem SrcK.ext {α:Type}{enc:α->List Value}{k:Nat}{h h':Heap}{a:Option Addr}{l:List α}(hl:SrcK enc k h a l)(he:Ext h h'):SrcK enc k h' a l :=
 ⟨ZAV.ext (fun hr _=>hr) hl.1 he,fun hn=>(hl.2 hn).imp id fun hx=>hx.imp id fun ⟨b,o,oa,h1,h2⟩=>⟨b,o,oa,h1,he.row h2⟩⟩
theorem ZBB {α:Type}{enc:α->List Value}{k:Nat}(hk:∀x,(enc x).length=k)(l:List α):(l.flatMap enc).length=l.length*k:=by
 induction l with
 | nil=>simp
 | cons x l ih=>rw[List.flatMap_cons,List.length_append,ih,hk,List.length_cons,Nat.succ_mul];omega
theorem ZLc {α:Type}{enc:α->List Value}{k:Nat}(hk:∀x,(enc x).length=k){l:List α}{i j:Nat}(hi:i<l.length)(hj:j<k):(l.flatMap enc)[i*k+j]?=(enc l[i])[j]?:=by
 have h1:=ZFT (f:=enc) (k:=k) (P:=l) hi fun x _=>hk x;have hle:i*k+k<=l.length*k:=by
  have:(i+1)*k<=l.length*k:=Nat.mul_le_mul_right _ hi;rw[Nat.add_mul,Nat.one_mul] at this;exact this
 rw[ZEA (by rw[ZBB hk];exact hle)] at h1;have h2:((List.drop (i*k) (l.flatMap enc)).take k)[j]?=(enc l[i])[j]?:=congrArg (fun l:List Value=>l[j]?) (Option.some.inj h1);rw[List.getElem?_take_of_lt hj,List.getElem?_drop] at h2;exact h2
theorem SrcK.row {α:Type}{enc:α->List Value}{k:Nat}(hk0:0<k)(hk:∀x,(enc x).length=k){h:Heap}{b o:Nat}{oa:Option Nat}{l:List α}(hl:ZAV k (fun _ row x=>row=enc x) h (some ⟨b,o,oa⟩) l)(hne:0<l.length):ZBC h b o (l.length*k)=some (l.flatMap enc):=by
 have hfl:=ZBB hk l
 have:=ZEN (h:=h) (b:=b) (o:=o) (l:=l.flatMap enc) (by rw[hfl];exact Nat.mul_pos hne hk0) (fun t ht=>by
  rw[hfl] at ht;have hi:t / k<l.length:=(Nat.div_lt_iff_lt_mul hk0).2 ht;have hmod:=Nat.mod_lt t hk0;have hdm:t / k*k+t % k=t:=by rw[Nat.mul_comm];exact Nat.div_add_mod t k
  obtain⟨b',o',oa',e,row,hrow,hR⟩:=hl (t / k) hi;cases e;have hR':row=enc l[t / k]:=hR;subst hR';have hg:=ZLc hk hi hmod;rw[hdm] at hg;have hlt:t<(l.flatMap enc).length:=by rw[hfl];exact ht
  have:=ZAr (k:=t % k) (v:=(l.flatMap enc)[t]) hrow (by rw[ZAq,<-hg,List.getElem?_eq_getElem hlt]);rw[Nat.add_assoc,hdm] at this;exact this)
 rwa [hfl] at this
theorem SrcK.src {P:Program} {α:Type}{enc:α->List Value}{k:Nat}(hk0:0<k)(hk:∀x,(enc x).length=k){h:Heap}{a:Option Addr}{l:List α}{cap:Nat}{el tX:TypeId}{dd:TypeDesc}(hl:SrcK enc k h a l)(hX:P.underlying tX=some dd)(hni:∀k,dd≠.int k):asrc P el k tX (.slice a l.length cap) h=some (l.length,l.flatMap enc):=by
 cases l with
 | nil =>
  rcases hl.2 rfl with rfl|⟨b,o,rfl⟩|⟨b,o,oa,rfl,h2⟩
  ·unfold asrc
   rw[hX];cases dd <;> first|rfl|exact absurd rfl (hni _)
  ·unfold asrc
   rw[hX];cases dd <;> first|rfl|exact absurd rfl (hni _)
  ·exact ZAm hX hni (by rw[List.length_nil,Nat.zero_mul];exact h2)
 | cons x l =>
  obtain⟨b,o,oa,rfl,_⟩:=hl.1 0 (by simp);exact ZAm hX hni (SrcK.row hk0 hk hl.1 (by simp))
theorem ZAE.rowsAt {α:Type}{enc:α->List Value}{k:Nat}(hk:∀x,(enc x).length=k){h0 h:Heap}{v:Value}{el:TypeId}{l:List α}{n:Nat}(ho:ZAE h0 h v el k (l.flatMap enc) n)(hn:n=l.length):∃a,v=.slice a l.length l.length/\SrcK enc k h a l/\(a=none->l=[]):=by
 subst hn
 rcases ho with ⟨rfl,e,e2⟩|⟨b,sp,op,rfl,hg,hl,_,_⟩
 ·have:l=[]:=List.eq_nil_of_length_eq_zero e2
  subst this;exact⟨none,rfl,⟨fun i hi=>absurd hi (Nat.not_lt_zero _),fun _=>.inl rfl⟩,fun _=>rfl⟩
 ·refine⟨_,rfl,⟨fun i hi=>⟨b,0,sp,rfl,enc l[i],?_,rfl⟩,fun e=>.inr (.inr ⟨b,0,sp,rfl,?_⟩)⟩,fun e=>nomatch e⟩
  ·unfold ZBC
   rw[hg];simp only;rw[Nat.zero_add];exact ZFT hi fun x _=>hk x
  ·unfold ZBC
   rw[hg];simp only[cut]
   rfl
theorem ZKK {P:Program}{t el:TypeId}(hu:P.underlying t=some (.slice el))(n:Nat)(w:World):(Op.equalIn (n+1) t (.slice none 0 0) (.slice none 0 0)).run P w=.ok true w:=by
 simp only[Op.equalIn,Sem.run_bind,run_underlying hu,Result.andThen_ok,Sem.run_pure]
 rfl
section
variable {P:Program}{m:Mem}{h:Heap}{d:Option Tmp}{ty:TypeId}{pos:String}{af:Array Edge}{gu:Option (Nat×Bool)}{t tz el:TypeId}{x y:Operand}
theorem ZQU (hu:P.underlying t=some (.slice el))(hx:opk h m x=some (.slice none 0 0))(hy:opk h m y=some (.slice none 0 0)):Aop P ⟨d,.binOp .eql t x y tz,ty,pos,af,gu⟩ m h (.bool true) h :=
 ZCe hx hy rfl rfl rfl fun w=>by
  have h2:(eqGuard .eql t x y (.slice none 0 0) (.slice none 0 0)).run P w=.ok () w:=rfl;simp only[Sem.run_bind,h2,Result.andThen_ok]
  show (do pure (.bool (<-Op.equalIn (9999+1) t (.slice none 0 0) (.slice none 0 0))):Sem Value).run P w=_
  simp only[Sem.run_bind,ZKK hu,Result.andThen_ok,Sem.run_pure]
theorem ZRi {a:Addr}{n c:Nat}(hu:P.underlying t=some (.slice el))(hx:opk h m x=some (.slice (some a) n c))(hy:opk h m y=some (.slice none 0 0)):Aop P ⟨d,.binOp .eql t x y tz,ty,pos,af,gu⟩ m h (.bool false) h :=
 ZAb fun e hs=>by
  show pBin P _ h e .eql t x y=_
  unfold pBin;simp only[ZAJ hs hx,ZAJ hs hy];have:ZEB P .eql t (.slice (some a) n c) (.slice none 0 0)=some (.bool false):=by
   unfold ZEB;rw[hu]
   rfl
  simp only[this]
end
theorem ZJl (a b:List UInt8):((⟨⟨a⟩⟩:ByteArray) == ⟨⟨b⟩⟩)=decide (a=b):=by
 have:((⟨⟨a⟩⟩:ByteArray) == ⟨⟨b⟩⟩)=((⟨a⟩:Array UInt8) == ⟨b⟩):=rfl;rw[this,Bool.eq_iff_iff];simp
end Go.Dw
