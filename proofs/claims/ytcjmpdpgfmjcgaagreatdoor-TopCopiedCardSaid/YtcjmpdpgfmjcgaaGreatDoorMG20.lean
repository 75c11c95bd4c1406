/- Y1: contracts: the library's sorting of numbers. -/
import Derived.Test.YtcjmpdpgfmjcgaaGreatDoorMG18
import Derived.Test.YtcjmpdpgfmjcgaaGreatDoorMG2
import Derived.Test.YtcjmpdpgfmjcgaaGreatDoorMG15
namespace Go.Dw
open Go Go.Dx Go.Proofs Go.Sort
set_option maxRecDepth 100000
section
variable {α:Type} [Inhabited α]{enc:α->Value}{w:World}{blk n:Nat}{os:Array Obj}{c:Array Value}{el:TypeId}{d:Array α}
theorem sortedW (hb:w.heap[blk]?=some (.cells c el (0,0))):w.heap.size<=(grow (putRow enc (Sort.ahead w n) blk 0 d) os).heap.size/\∀k,k<w.heap.size->(grow (putRow enc (Sort.ahead w n) blk 0 d) os).heap[k]?=(w.heap.setIfInBounds blk (.cells (putCells enc 0 d c) el (0,0)))[k]?:=by
 refine⟨by simp,fun k hk=>?_⟩
 rw[heap_grow_old _ _ (by simpa using hk)]
 obtain⟨h1,h2⟩:=Array.getElem?_eq_some_iff.1 hb
 rw[Array.getElem?_setIfInBounds]
 by_cases e:blk=k
 ·subst e
  rw[if_pos rfl,if_pos hk]
  simp[putRow,mapBlock,Sort.ahead,Array.getElem?_modify,onCells,hb]
 ·rw[if_neg e]
  simp[putRow,mapBlock,Sort.ahead,Array.getElem?_modify,e]
theorem putCells_size:(putCells enc 0 d c).size=c.size:=by simp[putCells]
theorem take_putCells (h:d.size<=c.size):(putCells enc 0 d c).toList.take d.size=d.toList.map enc:=by
 apply List.ext_getElem?
 intro j
 by_cases hj:j<d.size
 ·rw[List.getElem?_take_of_lt hj,Array.getElem?_toList]
  simp[putCells,hj,show j<c.size by omega,getElem!_pos d j hj]
 ·rw[List.getElem?_take_eq_none (by omega),List.getElem?_eq_none (by simp;omega)]
theorem holds_of (hb:w.heap[blk]?=some (.cells c el (0,0)))(ht:c.toList.take d.size=d.toList.map enc):Holds enc w blk 0 d:=by
 intro j hj
 refine⟨?_,by simp[World.frozen?,hb]⟩
 have h1:(c.toList.take d.size)[j]?=(d.toList.map enc)[j]?:=by rw[ht]
 rw[List.getElem?_take_of_lt hj] at h1
 simp only[World.cell?,hb,Nat.zero_add]
 simp only[Option.isSome_none,Bool.false_eq_true,if_false]
 rw[<-Array.getElem?_toList,h1]
 simp[hj,getElem!_pos d j hj]
end
theorem flatL_i64:∀l:List Int,flatL (l.map i64)=true
 | []=>rfl
 | _::l=>flatL_i64 l
theorem sortInts_sv {h0 h:Heap}{v:Value}{zs:List Int}{n:Nat}(hF:FreshSl h0 h v 3 1 (zs.map i64) n)(hn:n<1000000) :
  Sv Tryz.prog 103 [v] h (RetP fun r h'=>r=.tuple ⟨[]⟩/\FreshSl h0 h' v 3 1 ((sortI zs).map i64) n/\Exb (fun c=>blkOf v=some c) h h'):=by
 refine⟨fun ι w args' hr hv=>?_⟩
 obtain⟨l',rfl,hv⟩:=hv.arr
 cases hv with
 | cons hv1 hv2 =>
  cases hv2
  rcases hF.lies hr hv1 (by decide) with ⟨rfl,rfl,hz,rfl⟩|⟨b,bi,op,cap,c,hb,hg,hi,rfl,hc,hle,hV,hl,hnew⟩
  ·have:zs=[]:=List.map_eq_nil_iff.1 hz
   subst this
   refine (AnyM.slices_Sort_int_none laySort none 0 w).mono ?_
   rintro e w' ⟨rfl,rfl⟩
   exact⟨.ret (.tuple ⟨[]⟩) h,⟨rfl,by rw[show sortI []=[] from List.mergeSort_nil];exact FreshSl.nil _ _ _ _,Exb.refl _ _⟩,PostV_unch hr (VR.of_flat ι rfl) ⟨Nat.le_refl _,fun _ _=>rfl,rfl,rfl⟩⟩
  ·have hlz:zs.length=n:=by rw[List.length_map] at hl;omega
   have hcz:=hV.flat_eq (flatL_i64 zs)
   rw[List.length_map] at hcz hle
   have hH:Holds (Value.int .i64) w bi.blk 0 zs.toArray:=holds_of (enc:=i64) hc (by simpa using hcz)
   obtain⟨hbs,-⟩:=Array.getElem?_eq_some_iff.1 hc
   have hK:=AnyM.slices_Sort_int laySort bi.blk 0 cap zs w hH hbs (by omega)
   rw[hlz] at hK
   refine hK.mono ?_
   rintro e w' ⟨rfl,k,os,rfl⟩
   have hsl:(sortI zs).length=zs.length:=sortI_len zs
   have hts:(sortI zs).toArray.size<=c.size:=by simp[hsl];omega
   have hP:=PostV_row (h:=h) (vs2:=(sortI zs).map i64) (c2:=putCells i64 0 (sortI zs).toArray c) (r:=.tuple ⟨[]⟩) (r':=.tuple ⟨[]⟩) hr hg hi hc putCells_size (by simp[hsl]) (by
    have:=take_putCells (enc:=i64) hts
    rw[List.length_map]
    simp only[List.size_toArray] at this
    rw[this]
    exact VRL.of_flat ι (flatL_i64 _)) (VR.of_flat ι rfl) (sortedW (n:=k) (os:=os) hc).1 (sortedW hc).2 rfl rfl
   refine⟨.ret (.tuple ⟨[]⟩) (h.set b (.cells ((sortI zs).map i64) 3 op)),⟨rfl,hnew _ _ op (by simp[hsl]) (Upd.mk' h b _).at',?_⟩,hP⟩
   refine (Exb.ofUpd (Upd.mk' h b _)).mono fun x hx=>by rw[hx];exact hb
end Go.Dw
/- Y2: contracts: the library's sorting of late reels. -/
namespace Go.Dw
open Go Go.Dx Go.Proofs Go.Sort Go.RowKit Go.Lib
set_option maxRecDepth 100000
def LateE:Type:={ p:Int×Value // 0<=p.1/\p.1<1000000/\p.2.oneCell'=true }
instance:Inhabited LateE:=⟨⟨(0,.int .i64 0),by decide,by decide,rfl⟩⟩
def encL (x:LateE):List Value:=[i64 x.1.1,x.1.2]
def cfL (x y:LateE):Int:=x.1.1-y.1.1
theorem encL_len (x:LateE):(encL x).length=2:=rfl
theorem cfL_swo:SWO (ltOf cfL):=by
 refine⟨fun x=>?_,fun x y z h1 h2=>?_,fun x y z h1 h2=>?_⟩
 ·exact decide_eq_false (by unfold cfL;omega)
 ·have k1:x.1.1-y.1.1<0:=of_decide_eq_true h1
  have k2:y.1.1-z.1.1<0:=of_decide_eq_true h2
  exact decide_eq_true (show x.1.1-z.1.1<0 by omega)
 ·have k1:¬x.1.1-y.1.1<0:=of_decide_eq_false h1
  have k2:¬y.1.1-z.1.1<0:=of_decide_eq_false h2
  exact decide_eq_false (show ¬x.1.1-z.1.1<0 by omega)
theorem flatK_list (d:Array LateE):(flatK encL 2 d).toList=d.toList.flatMap encL:=by
 have hlen:∀l:List LateE,(l.flatMap encL).length=l.length*2:=by
  intro l
  induction l with
  | nil=>rfl
  | cons x l ih=>rw[List.flatMap_cons,List.length_append,ih,encL_len,List.length_cons];omega
 apply List.ext_getElem?
 intro t
 by_cases ht:t<d.size*2
 ·have hi:t / 2<d.toList.length:=by rw[Array.length_toList];omega
  have h1:=cut_flat (f:=encL) (k:=2) (P:=d.toList) hi fun _ _=>rfl
  rw[cut_le (by rw[hlen,Array.length_toList];omega)] at h1
  have h2:((List.drop (t / 2*2) (d.toList.flatMap encL)).take 2)[t % 2]?=(encL d.toList[t / 2])[t % 2]?:=congrArg (fun l:List Value=>l[t % 2]?) (Option.some.inj h1)
  rw[List.getElem?_take_of_lt (by omega),List.getElem?_drop,show t / 2*2+t % 2=t by omega] at h2
  rw[h2,Array.getElem?_toList,Array.getElem?_eq_getElem (by simpa using ht)]
  have h3:=get_flatK encL 2 d t ht
  rw[getElem!_pos _ t (by simpa using ht)] at h3
  rw[h3,getElem!_pos d (t / 2) (by omega),Array.getElem_toList,List.getElem?_eq_getElem (by rw[encL_len];omega),getElem!_pos _ _ (by rw[encL_len];omega)]
 ·rw[List.getElem?_eq_none (by simp;omega),List.getElem?_eq_none (by rw[hlen,Array.length_toList];omega)]
set_option maxHeartbeats 1000000 in
theorem byReel' (a b:Int)(u v:Value)(hw:IntKind.i64.wrap (a-b)=a-b)(W:World):Calls Tryz.prog 105 #[.agg #[.int .i64 a,u],.agg #[.int .i64 b,v]] W fun e w'=>e=.returned (.int .i64 (a-b))/\∃q os',w'=grow (W.drewN q) os':=by
 go_enter Tryz.func105,Tryz.ntmps105
 go_wp2
 go_ret
 exact⟨rfl,0,_,by rw[alloc_eq_grow,alloc_eq_grow,grow_grow];rfl⟩
theorem byReel (x y:LateE)(W:World):Calls Tryz.prog 105 #[.agg (encL x).toArray,.agg (encL y).toArray] W fun e w'=>e=.returned (.int .i64 (cfL x y))/\∃q os',w'=grow (W.drewN q) os' :=
 byReel' x.1.1 y.1.1 x.1.2 y.1.2 (IntWalk.i64_in _ (by have:=x.2;have:=y.2;omega)) W
theorem perm_lift {α β:Type}(f:α->β):∀{Z:List α}{l:List β},l.Perm (Z.map f)->∃Z':List α,Z'.Perm Z/\l=Z'.map f
 | [],l,h=>⟨[],.refl _,List.perm_nil.1 h⟩
 | z::Z,l,h=>by
  obtain⟨A,B,rfl⟩:=List.append_of_mem (h.symm.subset (List.mem_cons_self (a:=f z) (l:=Z.map f)))
  have h2:(A++B).Perm (Z.map f):=(List.perm_cons (f z)).1 (List.perm_middle.symm.trans h)
  obtain⟨Z',hp,he⟩:=perm_lift f h2
  have e1:(Z'.take A.length).map f=A:=by rw[<-List.map_take.symm,<-he];exact List.take_left
  have e2:(Z'.drop A.length).map f=B:=by rw[<-List.map_drop.symm,<-he];exact List.drop_left
  refine⟨Z'.take A.length++z::Z'.drop A.length,List.perm_middle.trans (.cons z (by rw[List.take_append_drop];exact hp)),?_⟩
  rw[List.map_append,List.map_cons,e1,e2]
theorem rows_of {ι:Iota}:∀{P:List (Lat×Value)}{l:List Value},VRL ι (P.flatMap latRow) l->(∀p∈P,0<=p.1.reel/\p.1.reel<1000000)->(∀v∈l,v.oneCell'=true)->∃Z:List ((Lat×Value)×LateE),Z.map Prod.fst=P/\(Z.map Prod.snd).flatMap encL=l/\∀z∈Z,z.2.1.1=z.1.1.reel/\VR ι z.1.2 z.2.1.2
 | [],l,h,_,_=>by
  cases h
  exact⟨[],rfl,rfl,fun z hz=>(List.not_mem_nil hz).elim⟩
 | p::P,l,h,hr,h1=>by
  rw[List.flatMap_cons] at h
  have h:VRL ι (i64 p.1.reel::p.2::P.flatMap latRow) l:=h
  cases h with
  | cons a1 a2 =>
   cases a2 with
   | cons b1 b2 =>
    cases a1
    rename_i v' l'
    obtain⟨Z,e1,e2,e3⟩:=rows_of b2 (fun q hq=>hr q (List.mem_cons_of_mem _ hq)) fun v hv=>h1 v (List.mem_cons_of_mem _ (List.mem_cons_of_mem _ hv))
    have hp:=hr p List.mem_cons_self
    refine⟨(p,⟨(p.1.reel,v'),hp.1,hp.2,h1 v' (List.mem_cons_of_mem _ List.mem_cons_self)⟩)::Z,by rw[List.map_cons,e1],?_,fun z hz=>?_⟩
    ·rw[List.map_cons,List.flatMap_cons,e2];rfl
    ·rcases List.mem_cons.1 hz with rfl|hz
     ·exact⟨rfl,b1⟩
     ·exact e3 z hz
theorem rows_back {ι:Iota}:∀{Z:List ((Lat×Value)×LateE)},(∀z∈Z,z.2.1.1=z.1.1.reel/\VR ι z.1.2 z.2.1.2)->VRL ι ((Z.map Prod.fst).flatMap latRow) ((Z.map Prod.snd).flatMap encL)
 | [],_=>.nil
 | z::Z,h=>by
  have hz:=h z List.mem_cons_self
  rw[List.map_cons,List.map_cons,List.flatMap_cons,List.flatMap_cons]
  refine .cons ?_ (.cons hz.2 (rows_back fun y hy=>h y (List.mem_cons_of_mem _ hy)))
  rw[hz.1]
  exact .int _ _
theorem latRows_len (P:List (Lat×Value)):(P.flatMap latRow).length=P.length*2:=by
 induction P with
 | nil=>rfl
 | cons x l ih=>rw[List.flatMap_cons,List.length_append,ih,List.length_cons];show 2+_=_;omega
theorem latRows_one:∀{P:List (Lat×Value)},(∀p∈P,allOne [p.2]=true)->allOne (P.flatMap latRow)=true
 | [],_=>rfl
 | p::P,h=>by
  have h1:=h p List.mem_cons_self
  have h2:=latRows_one fun q hq=>h q (List.mem_cons_of_mem _ hq)
  rw[List.flatMap_cons]
  simp only[allOne,List.all_append,latRow,List.all_cons,List.all_nil,Bool.and_true,Bool.and_eq_true] at h1 h2 ⊢
  exact⟨⟨rfl,h1⟩,h2⟩
theorem sortLates_sv {h0 h:Heap}{v:Value}{P:List (Lat×Value)}(hF:FreshSl h0 h v 61 2 (P.flatMap latRow) P.length)(hn:P.length<1000000)(hrl:∀p∈P,0<=p.1.reel/\p.1.reel<1000000)(hone:∀p∈P,allOne [p.2]=true) :
  Sv Tryz.prog 104 [v,.func (.func 105) ⟨[]⟩ ⟨[]⟩] h (RetP fun r h'=>r=.tuple ⟨[]⟩/\∃P':List (Lat×Value),P'.Perm P/\P'.Pairwise (fun a b=>a.1.reel<=b.1.reel)/\FreshSl h0 h' v 61 2 (P'.flatMap latRow) P.length/\Exb (fun c=>blkOf v=some c) h h'):=by
 refine⟨fun ι w args' hr hv=>?_⟩
 obtain⟨l',rfl,hv⟩:=hv.arr
 cases hv with
 | cons hv1 hv2 =>
  cases hv2 with
  | cons hv3 hv4 =>
   cases hv4
   have e3:=hv3.flat_eq rfl
   subst e3
   rcases hF.lies hr hv1 (by decide) with ⟨rfl,rfl,hz,hn0⟩|⟨b,bi,op,cap,c,hb,hg,hi,rfl,hc,hle,hV,hl,hnew⟩
   ·have:P=[]:=List.eq_nil_of_length_eq_zero hn0
    subst this
    refine (AnyF.slices_SortFunc_none laySortF none 0 _ w).mono ?_
    rintro e w' ⟨rfl,rfl⟩
    exact⟨.ret (.tuple ⟨[]⟩) h,⟨rfl,[],.refl _,.nil,FreshSl.nil _ _ _ _,Exb.refl _ _⟩,PostV_unch hr (VR.of_flat ι rfl) ⟨Nat.le_refl _,fun _ _=>rfl,rfl,rfl⟩⟩
   ·obtain⟨Z,e1,e2,e3⟩:=rows_of hV hrl (hV.allOne (latRows_one hone))
    have hZl:Z.length=P.length:=by rw[<-e1,List.length_map]
    rw[latRows_len] at hle e2
    have hD:((Z.map Prod.snd).toArray:Array LateE).size=P.length:=by simp[hZl]
    have hfl:(flatK encL 2 (Z.map Prod.snd).toArray).toList=c.toList.take (P.length*2):=by rw[flatK_list];exact e2
    have hH:HoldsK encL 2 w bi.blk 0 (Z.map Prod.snd).toArray:=holds_of (enc:=id) hc (by rw[size_flatK,hD,hfl,List.map_id])
    obtain⟨hbs,-⟩:=Array.getElem?_eq_some_iff.1 hc
    have hK:=AnyQ.slices_SortFunc laySortF 2 Tryz.isAgg61 Tryz.sizeOf61 encL encL_len (fun x v hv=>by
     have:=x.2
     simp only[encL,List.mem_cons,List.not_mem_nil,or_false] at hv
     rcases hv with rfl|rfl
     ·rfl
     ·exact this.2.2) cfL cfL_swo 105 #[] bi.blk 0 cap (Z.map Prod.snd).toArray w (enters_of Tryz.func105 (by kernel_rfl) rfl) (fun _ _ _ _ x y=>byReel x y _) hH hbs (by omega)
    rw[hD] at hK
    refine hK.mono ?_
    rintro e w' ⟨rfl,d',k,os,hp,hs,rfl⟩
    obtain⟨hp1,-,hp2⟩:=hp
    rw[hD] at hp1
    have hp3:d'.toList.Perm (Z.map Prod.snd):=by
     have x1:(d'.extract 0 P.length).toList=d'.toList:=by rw[Array.toList_extract];simp;rw[List.take_of_length_le (by rw[Array.length_toList];omega)]
     have x2:((Z.map Prod.snd).toArray.extract 0 P.length).toList=Z.map Prod.snd:=by rw[Array.toList_extract];simp;rw[<-List.map_take,List.take_of_length_le (by omega)]
     rw[x1,x2] at hp2;exact hp2
    obtain⟨Z',hz1,hz2⟩:=perm_lift Prod.snd hp3
    have hZ'l:Z'.length=P.length:=by rw[hz1.length_eq,hZl]
    have hPp:(Z'.map Prod.fst).Perm P:=by rw[<-e1];exact hz1.map _
    have hPl:(Z'.map Prod.fst).length=P.length:=hPp.length_eq
    have e3':∀z∈Z',z.2.1.1=z.1.1.reel/\VR ι z.1.2 z.2.1.2:=fun z hz=>e3 z (hz1.subset hz)
    have hfs:(flatK encL 2 d').size=P.length*2:=by rw[size_flatK,hp1]
    have hP:=PostV_row (h:=h) (vs2:=(Z'.map Prod.fst).flatMap latRow) (c2:=putCells id 0 (flatK encL 2 d') c) (r:=.tuple ⟨[]⟩) (r':=.tuple ⟨[]⟩) hr hg hi hc putCells_size (by rw[latRows_len,latRows_len,hPl]) (by
     have:=take_putCells (enc:=id) (d:=flatK encL 2 d') (c:=c) (by rw[hfs];exact hle)
     rw[hfs,List.map_id,flatK_list,hz2] at this
     rw[latRows_len,hPl,this]
     exact rows_back e3') (VR.of_flat ι rfl) (sortedW (enc:=id) (d:=flatK encL 2 d') (n:=k) (os:=os) hc).1 (sortedW hc).2 rfl rfl
    refine⟨.ret (.tuple ⟨[]⟩) (h.set b (.cells ((Z'.map Prod.fst).flatMap latRow) 61 op)),⟨rfl,Z'.map Prod.fst,hPp,?_,hnew _ _ op (by rw[latRows_len,latRows_len,hPl]) (Upd.mk' h b _).at',?_⟩,hP⟩
    ·rw[List.pairwise_map,List.pairwise_iff_getElem]
     intro i j hi hj hij
     have h5:¬cfL d'[j]! d'[i]!<0:=of_decide_eq_false (hs i j (Nat.zero_le _) hij (by omega))
     have hdl:d'=(Z'.map Prod.snd).toArray:=by rw[<-hz2]
     have g:∀q (hq:q<Z'.length),d'[q]! = Z'[q].2:=fun q hq=>by
      subst hdl
      rw[getElem!_pos _ q (by simpa using hq)]
      simp
     rw[g i hi,g j hj] at h5
     unfold cfL at h5
     have k1:=(e3' _ (List.getElem_mem hi)).1
     have k2:=(e3' _ (List.getElem_mem hj)).1
     omega
    ·refine (Exb.ofUpd (Upd.mk' h b _)).mono fun x hx=>by rw[hx];exact hb
end Go.Dw
/- Y3: contracts: the library's Grow over nil; appending where there is room. -/
namespace Go.Dw
open Go Go.Dx Go.Proofs
set_option maxRecDepth 100000
section
variable {P:Program}{m:Mem}{h:Heap}{d:Option Tmp}{ty:TypeId}{pos:String}{af:Array Edge}{gu:Option (Nat×Bool)}
theorem A_capN {x:Operand}{t:TypeId}{ts:List TypeId}{el:TypeId}{len cap:Nat}{c:Call}(hc:c.callee=.builtin .cap)(hargs:c.args=#[x])(hat:c.argTypes.toList=t::ts)(ht:P.underlying t=some (.slice el))
  (hx:opk h m x=some (.slice none len cap)):Aop P ⟨d,.call c,ty,pos,af,gu⟩ m h (.int .i64 (cap:Int)) h :=
 Aop_of fun e hs=>by
  show pCall P _ h e c=_
  unfold pCall
  rw[hc]
  simp only[hargs,hat,abuiltin,opk_opv hs hx,acap,ht];rfl
theorem A_nilTo {t el:TypeId}{x j:Operand}{kj:IntKind}(ht:P.underlying t=some (.slice el))(hz:tsz P el=some 1)(hx:opk h m x=some (.slice none 0 0))(hj:opk h m j=some (.int kj 0)):Aop P ⟨d,.slice t x none (some j) none,ty,pos,af,gu⟩ m h (.slice none 0 0) h:=by
 refine A_flat2 hx hj rfl rfl rfl fun ev w h1 h2=>?_
 have hsb:sb 0 0 none (some (.int kj 0)) none=some (0,0,0):=rfl
 obtain⟨hrun,_,hm0,_⟩:=sb_run (P:=P) (ι:=fun _=>none) (lo':=none) (hi':=some (.int kj 0)) (mx':=none) .none (.some (.int kj 0)) .none hsb (Nat.le_refl _) true w
 simp only[execOp,h1,h2,Option.map_some,Option.map_none,Instr.sliceAt,Instr.slice,Sem.run_bind,run_underlying ht,Result.andThen_ok,hrun,Dx.run_sizeOf hz,Sem.run_pure]
 rfl
theorem A_openTo {t el:TypeId}{x j:Operand}{kj:IntKind}{b n:Nat}(hn:0<n)(ht:P.underlying t=some (.slice el))(hz:tsz P el=some 1)(hx:opk h m x=some (.slice (some ⟨b,0,some 1⟩) n n))(hj:opk h m j=some (.int kj 0)):Aop P ⟨d,.slice t x none (some j) none,ty,pos,af,gu⟩ m h (.slice (some ⟨b,0,some 1⟩) 0 n) h :=
 Aop_of fun e hs=>by
  show pSlice P _ h e t x none (some j) none=_
  unfold pSlice
  simp only[opk_opv hs hx,opvo,opk_opv hs hj]
  have:aslice P t (.slice (some ⟨b,0,some 1⟩) n n) none (some (.int kj 0)) none=some (.slice (some ⟨b,0,some 1⟩) 0 n):=by
   have hb1:Nat.ble n n=true:=Nat.ble_eq_true_of_le (Nat.le_refl _)
   have c1:bnd none n n=some n:=by simp only[bnd,hb1]
   have c2:bnd (some (.int kj 0)) n n=some 0:=by
    have:Nat.ble 0 n=true:=Nat.ble_eq_true_of_le (Nat.zero_le _)
    show bnd (some (.int kj (Int.ofNat 0))) n n=some 0
    simp only[bnd,natOf,this]
   have c3:bnd none 0 0=some 0:=rfl
   have c4:sb n n none (some (.int kj 0)) none=some (0,0,n):=by
    unfold sb
    simp only[c1,c2,c3]
   unfold aslice
   rw[ht]
   simp only[c4,hz]
   rfl
  simp only[this]
end
section
variable {P:Program}{fr:Fr}{m:Mem}{ds:List ADef}{h:Heap}{Q:CQ}{ops:Array Oper}{lo:List Oper}{d:Nat}{ty:TypeId}{pos:String}{af:Array Edge}{gu:Option (Nat×Bool)}
theorem Wo_appendRoom {tS tX el:TypeId}{by':Nat}{c:Call}{s x:Operand}{xv:Value}{l vs r:List Value}{b n k cap:Nat}{sp:Option Nat}{op:Bool}{ts:List TypeId}(hg:gk ops.toList m gu=some true)(hlt:Nat.blt d fr.nt=true)(hc:c.callee=.builtin .append)(hargs:c.args=#[s,x])(hat:c.argTypes.toList=tS::tX::ts)(hS:P.underlying tS=some (.slice el))(hE:Elm P el 1 by')
  (hs:opk h m s=some (.slice (some ⟨b,0,sp⟩) n cap)) (hsp:sp=none\/sp=some 1) (hx:opk h m x=some xv) (hsrc:asrc P el 1 tX xv h=some (k,l)) (h1:allOne l=true) (hgt:h.get b=some (.cells vs el op)) (hroom:n+k<=cap) (hlay:lay vs n l=some r)
  (hk:∀h',Upd h b (.cells r el op) h'->Wo P fr ops lo (upd m d (.slice (some ⟨b,0,sp⟩) (n+k) cap)) ds h' Q):Wo P fr ops (⟨some d,.call c,ty,pos,af,gu⟩::lo) m ds h Q:=by
 refine Wo_do hg (by show isBuiltin c.callee=true;rw[hc];rfl) rfl hlt (Aop_of fun e hsat=>?_) (hk _ (Upd.mk' h b _))
 show pCall P _ h e c=_
 unfold pCall
 rw[hc]
 simp only[hargs,hat,abuiltin,opk_opv hsat hs,opk_opv hsat hx]
 obtain⟨i,z,i1,i2,i3,i4,i5,i6⟩:=hE.h
 have e1:Nat.ble (Nat.add n k) cap=true:=Nat.ble_eq_true_of_le hroom
 have hlay':lay vs (Nat.add 0 (Nat.mul n 1)) l=some r:=by
  rw[show Nat.add 0 (Nat.mul n 1)=n from by show 0+n*1=n;omega];exact hlay
 unfold aappend
 simp only[hS,i1,i4,i2,i5,i6,hsrc]
 rcases hsp with rfl|rfl
 ·simp only[hgt,h1,e1,hlay'];rfl
 ·simp only[hgt,h1,e1,hlay'];rfl
end
theorem asrc_zeros {P:Program}{el tX:TypeId}{kk ki:IntKind}{h:Heap}{n:Nat}{z:Value}{by':Nat}(hX:P.underlying tX=some (.int kk))(hE:Elm P el 1 by')(hZ:zeroOf P el=some z)(hb:n*by'<=281474976710656)(hb2:n<281474976710656):asrc P el 1 tX (.int ki n) h=some (n,rep n z.cells.toList):=by
 obtain⟨i,z',i1,i2,i3,i4,i5,i6⟩:=hE.h
 rw[hZ] at i4;cases i4
 have e1:Nat.ble (Nat.mul n by') 281474976710656=true:=Nat.ble_eq_true_of_le hb
 have e2:Nat.blt n 281474976710656=true:=by rw[Nat.blt_eq];exact hb2
 unfold asrc
 rw[hX]
 simp only[show natOf (.int ki (n:Int))=some n from rfl,hZ,i1,i3,e1,e2,i5,i6]
theorem zeros_map (n:Nat):rep n [i64 0]=((List.range n).map fun _=>(0:Int)).map i64:=by rw[rep_range,List.map_map];rfl
theorem allOne_zeros (n:Nat):allOne (rep n [i64 0])=true:=by rw[zeros_map];exact allOne_i64 _
theorem grow_sv {h:Heap}{n:Nat}{x:Int}(hx:x=n)(hn:0<n)(hn2:n<1000000)(hw:WF h) :
  Sv Tryz.prog 145 [.slice none 0 0,i64 x] h (RetP fun v h'=>∃b sp op,v=.slice (some ⟨b,0,sp⟩) 0 n/\(sp=none\/sp=some 1)/\h'.get b=some (.cells (rep n [i64 0]) 3 op)/\h.nx<=b/\Ext h h'):=by
 subst hx
 refine Sv_enter Tryz.func145 rfl (by rw[Tryz.ntmps145];rfl) ?_;show Wc Tryz.prog ⟨145,27,none⟩ _ _ _ _ _
 refine zz ?_
 refine Wo_do rfl rfl rfl rfl (A_ff (by omega) (A_lss rfl rfl)) ?_
 refine zz ?_
 refine Wo_do rfl rfl rfl rfl (A_capN rfl rfl rfl Und.h rfl) ?_
 refine zz ?_
 refine Wo_do rfl rfl rfl rfl (A_tt (by omega) (A_gtr rfl rfl)) ?_
 refine zz ?_
 refine Wo_do rfl rfl rfl rfl (A_capN rfl rfl rfl Und.h rfl) ?_
 refine Wo_do rfl rfl rfl rfl (A_nilTo Und.h Tsz.h rfl rfl) ?_
 refine zz ?_
 refine Wo_appendF (h0:=h) (by':=8) (sz:=1) (k:=n) (n:=0) (cs:=[]) (l:=rep n [i64 0]) hw (Ext.refl h) rfl rfl rfl rfl rfl Und.h inferInstance rfl rfl (FreshSl.nil _ _ _ _) ?_ (by rw[rep_length];rfl) ?_ (by omega) (by omega) fun v' h' hF hE _ _ _=>?_
 ·have e:((n:Int)-((0:Nat)-(0:Nat):Int))=(n:Int):=by omega
  have:=asrc_zeros (P:=Tryz.prog) (el:=3) (tX:=3) (ki:=.i64) (h:=h) (n:=n) Und.h inferInstance Zr.h (by omega) (by omega)
  rw[<-e] at this
  exact this
 ·exact allOne_zeros n
 rw[List.nil_append,Nat.zero_add] at hF
 have key:∃b sp op,v'=.slice (some ⟨b,0,sp⟩) n n/\(sp=none\/sp=some 1)/\h'.get b=some (.cells (rep n [i64 0]) 3 op)/\h.nx<=b:=by
  rcases hF with ⟨_,_,e⟩|⟨b,sp,op,e,g1,g2,g3,g4⟩
  ·omega
  ·exact⟨b,sp,op,e,g4,g1,g3⟩
 obtain⟨b,sp,op,rfl,hsp,hg,hb⟩:=key
 refine zz ?_
 rcases hsp with rfl|rfl
 ·refine Wo_do rfl rfl rfl rfl (A_sliceTo (k:=0) Und.h Tsz.h rfl rfl rfl (Nat.zero_le _)) ?_
  refine zz ?_
  exact Wc_ret (Lv_ret rfl ⟨b,none,op,rfl,.inl rfl,hg,hb,hE⟩)
 ·refine Wo_do rfl rfl rfl rfl (A_openTo hn Und.h Tsz.h rfl rfl) ?_
  refine zz ?_
  exact Wc_ret (Lv_ret rfl ⟨b,some 1,op,rfl,.inr rfl,hg,hb,hE⟩)
end Go.Dw
/- Y4: contracts: the library's Concat of slices of numbers. -/
namespace Go.Dw
open Go Go.Dx Go.Proofs
set_option maxRecDepth 100000
def lenS (L:List (Value×List Value)):Nat:=(L.flatMap Prod.snd).length
theorem lenS_take {L:List (Value×List Value)}{i:Nat}(hi:i<L.length):lenS (L.take (i+1))=lenS (L.take i)+L[i].2.length:=by
 unfold lenS
 rw[List.take_succ_eq_append_getElem hi,List.flatMap_append,List.length_append]
 simp
theorem cat_take {L:List (Value×List Value)}{i:Nat}(hi:i<L.length):(L.take (i+1)).flatMap Prod.snd=(L.take i).flatMap Prod.snd++L[i].2:=by
 rw[List.take_succ_eq_append_getElem hi,List.flatMap_append]
 simp
theorem lenS_le {L:List (Value×List Value)}(i:Nat):lenS (L.take i)<=lenS L:=by
 unfold lenS
 conv=>rhs;rw[<-List.take_append_drop i L,List.flatMap_append,List.length_append]
 omega
set_option maxHeartbeats 1000000 in
theorem concat_sv {h:Heap}{L:List (Value×List Value)}{a:Option Addr}{c n:Nat}(hw:WF h)(hn:lenS L=n)(hn0:0<n)(hn1:n<1000000)(hL1:L.length<1000000)
  (ha:∀i (hi:i<L.length),∃b o oa,a=some ⟨b,o,oa⟩/\cellAt h b (o+i*1)=some L[i].1)
  (hS:∀p∈L,(∃a c,p.1=.slice a p.2.length c)/\allOne p.2=true/\∀h1,Ext h h1->asrc Tryz.prog 3 1 31 p.1 h1=some (p.2.length,p.2)) :
  Sv Tryz.prog 102 [.slice a L.length c] h (RetP fun v h'=>FreshSl h h' v 3 1 (L.flatMap Prod.snd) n/\Ext h h'):=by
 refine Sv_enter Tryz.func102 rfl (by rw[Tryz.ntmps102];rfl) ?_;show Wc Tryz.prog ⟨102,36,none⟩ _ _ _ _ _
 refine zz ?_
 refine Wc_loop (fun (i:Nat) me ds h'=>ds=[]/\h=h'/\i<=L.length/\AllK me [(0,.slice a L.length c),(3,i64 (lenS (L.take i):Nat)),(9,.slice a L.length c),(10,i64 L.length),(11,i64 i)]) (fun i=>L.length-i) 0 ?_ ?_
 ·exact⟨rfl,rfl,Nat.zero_le _,rfl,rfl,rfl,rfl,rfl,trivial⟩
 rintro i me ds _ ⟨rfl,rfl,hi,hall⟩
 refine Wc.le ?_ (Le.kn hall)
 have hle:=lenS_le (L:=L) i
 refine zz ?_
 refine Wo_dec rfl rfl rfl rfl (A_lss rfl rfl) (fun hlt=>?_) (fun hlt=>?_)
 ·have hi':i<L.length:=by omega
  obtain⟨b,o,oa,rfl,hc⟩:=ha i hi'
  obtain⟨⟨ai,ci,e⟩,-,-⟩:=hS _ (List.getElem_mem hi')
  rw[e] at hc
  have hle2:=lenS_le (L:=L) (i+1)
  have hs:=lenS_take hi'
  refine zz ?_
  refine Wo_do rfl rfl rfl rfl (A_ix Und.h Tsz.h rfl rfl) ?_
  refine zz ?_
  refine Wo_do rfl rfl rfl rfl (A_ff (by omega) (A_lss rfl rfl)) ?_
  refine zz ?_
  refine⟨i+1,(by show L.length-(i+1)<L.length-i;omega),rfl,rfl,hi',rfl,?_,rfl,rfl,rfl,trivial⟩
  show some (i64 ((lenS (L.take i):Nat)+(L[i].2.length:Nat)))=some (i64 (lenS (L.take (i+1)):Nat))
  rw[hs];congr 2
 have hiL:i=L.length:=by omega
 subst hiL
 rw[List.take_length,hn]
 clear hle
 refine zz ?_
 refine Wo_callr rfl rfl rfl rfl rfl Bod.h rfl rfl (grow_sv (n:=n) rfl hn0 hn1 hw) ?_
 rintro _ h1 ⟨b,sp,op,rfl,hsp,hg,hb,hE⟩
 refine zz ?_
 refine Wc_loop (fun (i:Nat) me ds h'=>ds=[]/\i<=L.length/\∃vs,h'.get b=some (.cells vs 3 op)/\vs.length=n/\vs.take (lenS (L.take i))=(L.take i).flatMap Prod.snd/\Exb (fun c=>c=b) h1 h'/\AllK me [(0,.slice a L.length c),(6,.slice (some ⟨b,0,sp⟩) (lenS (L.take i)) n),(25,.slice a L.length c),(26,i64 L.length),(27,i64 i)]) (fun i=>L.length-i) 0 ?_ ?_
 ·exact⟨rfl,Nat.zero_le _,_,hg,by rw[rep_length];exact Nat.mul_one _,rfl,Exb.refl _ _,rfl,rfl,rfl,rfl,rfl,trivial⟩
 clear hall
 rintro i me ds h2 ⟨rfl,hi,vs,hg2,hvl,hvt,hX,hall⟩
 refine Wc.le ?_ (Le.kn hall)
 have hE2:Ext h h2:=hX.ext hE hw fun c e=>by omega
 have hle:=lenS_le (L:=L) i
 refine zz ?_
 refine Wo_dec rfl rfl rfl rfl (A_lss rfl rfl) (fun hlt=>?_) (fun hlt=>?_)
 ·have hi':i<L.length:=by omega
  obtain⟨b',o,oa,rfl,hc⟩:=ha i hi'
  replace hc:=hE2.cell hc
  obtain⟨-,h1,hsrc⟩:=hS _ (List.getElem_mem hi')
  have hle2:=lenS_le (L:=L) (i+1)
  have hs:=lenS_take hi'
  have hft:=cat_take hi'
  refine zz ?_
  refine Wo_do rfl rfl rfl rfl (A_ix Und.h Tsz.h rfl rfl) ?_
  refine zz ?_
  refine Wo_appendRoom (by':=8) (l:=L[i].2) (k:=L[i].2.length) rfl rfl rfl rfl rfl Und.h inferInstance rfl hsp rfl (hsrc h2 hE2) h1 hg2 (by omega) (lay_some (by omega)) fun h3 hU3=>?_
  refine zz ?_
  refine⟨i+1,(by show L.length-(i+1)<L.length-i;omega),rfl,hi',_,hU3.at',?_,?_,hX.upd hU3 rfl,rfl,?_,rfl,rfl,rfl,trivial⟩
  ·simp only[List.length_append,List.length_take,List.length_drop];omega
  ·rw[hvt,hs,hft,<-List.append_assoc]
   exact List.take_left' (by rw[List.length_append];rfl)
  ·rw[hs];rfl
 have hiL:i=L.length:=by omega
 subst hiL
 rw[List.take_length] at hvt
 refine zz ?_
 refine Wc_ret (Lv_ret rfl ⟨?_,hE2⟩)
 rw[hn] at hvt
 rw[List.take_of_length_le (by omega)] at hvt
 rw[List.take_length,hn]
 exact .inr ⟨b,sp,op,rfl,by rw[<-hvt];exact hg2,by rw[<-hvt,hvl];omega,hb,hsp⟩
end Go.Dw
/- Y5: contracts: the program's own choose. -/
namespace Go.Dw
open Go Go.Dx Go.Proofs Go.Mt
set_option maxRecDepth 100000
theorem ints_snoc (K:List Nat)(r:Nat):ints (K++[r])=ints K++[(r:Int)]:=by simp[ints]
abbrev rsv (h:Heap):Heap:=⟨h.t,Nat.succ h.nx,h.gl⟩
theorem Ext.rsv (h:Heap):Ext h (rsv h):=⟨fun _ _ x=>x,Nat.le_succ _,rfl⟩
theorem WF.rsv {h:Heap}(hw:WF h):WF (rsv h):=fun c x hc=>Nat.lt_succ_of_lt (hw c x hc)
theorem WF.upd {h h':Heap}{b:Nat}{o:AO}(hw:WF h)(hU:Upd h b o h')(hb:b<h.nx):WF h':=fun c x hc=>by
 rw[hU.nx]
 by_cases e:c=b
 ·omega
 ·rw[hU.other c e] at hc;exact hw c x hc
theorem FreshSl.updL {h0 h h':Heap}{v:Value}{el:TypeId}{sz n b:Nat}{cs:List Value}{o:AO}(ho:FreshSl h0 h v el sz cs n)(hU:Upd h b o h')(hb:b<h0.nx):FreshSl h0 h' v el sz cs n:=by
 rcases ho with g|⟨b',sp,op,e1,e2,e3,e4,e5⟩
 ·exact .inl g
 ·exact .inr ⟨b',sp,op,e1,hU.get (by omega) e2,e3,e4,e5⟩
noncomputable def latP (p:Nat×List Nat):Lat:=⟨(p.1:Int),sortI (ints p.2)⟩
theorem lateP_perm (t:Task):((goT t).2.map latP).Perm (lateL t):=by
 have hk:((goT t).2.map Prod.fst).Nodup:=(ordN_nodup t).sublist (goN_keys t _)
 have h1:((goT t).2.map latP)=((goT t).2.map Prod.fst).map (latOf t):=by
  rw[List.map_map]
  refine List.map_congr_left fun p hp=>?_
  show latP p=latOf t p.1
  unfold latP latOf
  rw[byOf_mem hp]
 rw[h1]
 refine List.Perm.map _ ((List.perm_ext_iff_of_nodup hk ?_).2 fun r=>late_iff.symm)
 exact List.nodup_range.sublist List.filter_sublist
theorem lats_eq {t:Task}{l:List Lat}(hp:l.Perm (lateL t))(hs:l.Pairwise fun a b=>a.reel<=b.reel):l=lateL t:=by
 have hst:(lateL t).Pairwise fun a b=>a.reel<b.reel:=by
  unfold lateL
  rw[List.pairwise_map]
  refine (List.Pairwise.sublist (List.filter_sublist) List.pairwise_lt_range).imp fun h=>?_
  show ((_:Nat):Int)<((_:Nat):Int)
  omega
 have hnd:(l.map Lat.reel).Nodup:=by
  rw[(hp.map Lat.reel).nodup_iff]
  exact (List.pairwise_map.2 hst).imp fun h=>by omega
 have hls:l.Pairwise fun a b=>a.reel<b.reel:=by
  refine (List.Pairwise.and hs (List.pairwise_map.1 hnd)).imp fun ⟨h1,h2⟩=>?_
  have h2:_≠_:=h2
  omega
 generalize lateL t=s at *
 clear hs hnd
 induction l generalizing s with
 | nil=>exact (List.nil_perm.1 hp).symm
 | cons a l ih =>
  cases s with
  | nil=>exact absurd (List.perm_nil.1 hp) (by simp)
  | cons b s =>
   rw[List.pairwise_cons] at hls hst
   have e:a=b:=by
    rcases List.mem_cons.1 (hp.subset List.mem_cons_self) with e|g
    ·exact e
    ·rcases List.mem_cons.1 (hp.symm.subset List.mem_cons_self) with e|g2
     ·exact e.symm
     ·have:=hst.1 a g;have:=hls.1 b g2;omega
   subst e
   rw[ih hls.2 s ((List.perm_cons a).1 hp) hst.2]
set_option maxHeartbeats 4000000 in
theorem choose_sv {tc:List Value}{t:Task}{h:Heap}(ht:TaskAt h tc t)(hf:t.Fit)(hV:Valid t) :
  Sv Tryz.prog 61 [.agg ⟨tc⟩] h (RetP fun v h'=>∃(v1 v3:Value) (P:List (Lat×Value)),v=.tuple ⟨[v1,v3]⟩/\Own h h' [slI h v1 3 1 ((keptI t).map i64) (keptI t).length,slI h v3 61 2 (P.flatMap latRow) P.length,lvI h P]/\P.map Prod.fst=lateL t/\Ext h h'):=by
 have ht0:=ht
 obtain⟨am,cm,ar,cr,rfl,hM,hR⟩:=ht
 have hr1:=hV.r1
 refine Sv_wf fun hw=>?_
 refine Sv_enter Tryz.func61 rfl (by rw[Tryz.ntmps61];rfl) ?_;show Wc Tryz.prog ⟨61,77,none⟩ _ _ _ _ _
 refine zz ?_
 refine Wo_box rfl rfl rfl fun h1 hE1 hW1 hg1 hn1=>?_
 refine zz ?_
 refine Wo_callr rfl rfl rfl rfl rfl Bod.h rfl rfl (ordered_sv hW1 (RowsAt.ext (R:=ReelAt) (fun x y=>ReelAt.ext x y) hR hE1) hV) ?_
 rintro v16 h2 ⟨hF16,hE2⟩
 have hol:(ordN t).length=t.reels.length:=by rw[(ordN_perm t).length_eq,List.length_range]
 have horn:∀r∈ordN t,r<t.reels.length:=fun r hr=>mem_ordN.1 hr
 have hond:(ordN t).Nodup:=ordN_nodup t
 have hoi:(ints (ordN t)).length=(ordN t).length:=List.length_map _
 rw[<-hol,<-hoi] at hF16
 have hO1:=(Own.nil h h).newCe hw (Nat.le_refl _) hE1 hg1 (Nat.le_refl _)
 have hO2:=hO1.newSl hW1 hE1.2.1 hE2 hF16
 replace hE1:=hE1.trans hE2
 refine Wo_wf fun hw2=>?_
 replace hO2:=((hO2.new (y:=lvI h []) hw2 hE1.2.1 (Ext.refl _) (fun _ hp=>nomatch hp) (fun c hc=>by obtain⟨p,hp,_⟩:=hc;cases hp)).nilSl 61 2).nilSl 3 1
 obtain⟨a16,rfl,_,-⟩:=hF16.srcAt
 clear hW1 hn1 hE2 hO1 hF16 hw2 hg1
 clear h1
 generalize hord:ordN t=ord at *
 refine zz ?_
 refine Wc_loop (fun (i:Nat) m ds h'=>ds=[]/\i<=ord.length/\Ext h h'/\∃(v2 v3:Value) (P:List (Lat×Value)),Own h h' [slI h v2 3 1 ((ints (goN t (ord.take i)).1).map i64) (ints (goN t (ord.take i)).1).length,slI h v3 61 2 (P.flatMap latRow) P.length,lvI h P,slI h (.slice a16 (ints ord).length (ints ord).length) 3 1 ((ints ord).map i64) (ints ord).length,ceI h.nx [i64 t.first,i64 t.days,.slice am t.machines.length cm,.slice ar t.reels.length cr] 25 false]/\P.map Prod.fst=(goN t (ord.take i)).2.map latP ∧
   AllK m [(1,ptr h.nx),(2,v2),(3,v3),(16,.slice a16 (ints ord).length (ints ord).length),(17,i64 (ints ord).length),(18,i64 i)]) (fun i=>ord.length-i) 0 ?_ ?_
 ·exact⟨rfl,Nat.zero_le _,hE1,_,_,[],hO2,rfl,rfl,rfl,rfl,rfl,rfl,rfl,trivial⟩
 clear hO2 hE1
 clear h2
 rintro i m ds h1 ⟨rfl,hi,hE1,v2,v3,P,hO,hP,hall⟩
 refine Wc_wf fun hw1=>?_
 refine Wc.le ?_ (Le.kn hall)
 have hF2:FreshSl h h1 v2 3 1 _ _:=hO.p1
 have hF16:FreshSl h h1 (.slice a16 (ints ord).length (ints ord).length) 3 1 ((ints ord).map i64) (ints ord).length:=hO.p4
 have hg1:h1.get h.nx=some (.cells [i64 t.first,i64 t.days,.slice am t.machines.length cm,.slice ar t.reels.length cr] 25 false):=hO.tail.p4
 obtain⟨a16',e16,_,hs16⟩:=hF16.srcAt
 simp only[Value.slice.injEq] at e16
 obtain⟨rfl,_,_⟩:=e16
 have hPl:P.length<=i:=by
  have:=congrArg List.length hP
  rw[List.length_map,List.length_map] at this
  have h2:=(goN_keys t (ord.take i)).length_le
  rw[List.length_map,List.length_take] at h2
  omega
 refine zz ?_
 refine Wo_dec rfl rfl rfl rfl (A_lss rfl rfl) (fun hip=>?_) (fun hip=>?_)
 rotate_left
 ·have:i=ord.length:=by omega
  subst this
  rw[List.take_length] at hO hF2 hP
  subst hord
  have hkl:=(goT_sub t).length_le
  have hKi:(ints (goT t).1).length=(goT t).1.length:=List.length_map _
  clear hs16 hF16 hg1 hi
  refine zz ?_
  refine Wo_callr rfl rfl rfl rfl rfl Bod.h rfl rfl (sortInts_sv hF2 (by show (ints (goT t).1).length<1000000;omega)) ?_
  rintro _ g1 ⟨rfl,hFs,hX⟩
  have hOs:=hO.put (y:=slI h v2 3 1 ((keptI t).map i64) (ints (goT t).1).length) hw1 hE1.2.1 hX hFs fun c hc=>.inl hc
  replace hE1:=hO.grows hX hE1 hw
  clear hF2 hX hO hw1 hall
  clear h1
  refine Wo_wf fun hw1=>?_
  have hL1:=lateP_perm t
  have hF3:FreshSl h g1 v3 61 2 (P.flatMap latRow) P.length:=hOs.p2
  have hB3:(lvI h P).p g1:=hOs.p3
  refine zz ?_
  refine Wo_callr rfl rfl rfl rfl rfl Bod.h rfl rfl (sortLates_sv hF3 (by omega) (fun p hp=>?_) (fun p hp=>?_)) ?_
  ·have h1:p.1∈P.map Prod.fst:=List.mem_map_of_mem hp
   rw[hP] at h1
   obtain⟨q,hq,e⟩:=List.mem_map.1 h1
   have h2:q.1∈ordN t:=(goN_keys t (ordN t)).subset (List.mem_map_of_mem hq)
   have h3:=horn _ h2
   rw[<-e]
   show (0:Int)<=(q.1:Int)/\(q.1:Int)<1000000
   omega
  ·obtain⟨a,e,_⟩:=(hB3 p hp).is
   rw[e];rfl
  rintro _ g2 ⟨rfl,P',hPp,hPs,hF4,hX⟩
  have hO2:=hOs.up2.put (y:=slI h v3 61 2 (P'.flatMap latRow) P.length) hw1 hE1.2.1 hX hF4 fun c hc=>.inl hc
  replace hE1:=hOs.up2.grows hX hE1 hw
  have hPe:P'.map Prod.fst=lateL t:=by
   refine lats_eq ((hPp.map Prod.fst).trans ?_) (List.pairwise_map.2 hPs)
   rw[hP];exact hL1
  rw[<-hPp.length_eq,show (ints (goT t).1).length=(keptI t).length from (sortI_len _).symm] at hO2
  have hO3:=((hO2.up3.as (y:=lvI h P') (fun hx p hp=>hx p (hPp.subset hp)) (fun c hc=>by
   obtain⟨p,hp,hb⟩:=hc
   exact⟨p,hPp.subset hp,hb⟩)).up3.perm (.cons _ (.swap _ _ _))).sub (.cons_cons _ (.cons_cons _ (.cons_cons _ (List.nil_sublist _))))
  refine zz ?_
  exact Wc_ret (Lv_ret rfl ⟨_,_,P',rfl,hO3,hPe,hE1⟩)
 have hi':i<ord.length:=by omega
 obtain⟨b4,o4,oa4,rfl,hc4⟩:=hs16.1 i (by omega)
 generalize hkp:(goN t (ord.take i)).1=K at *
 have hKo:(ints ord)[i]'(by omega)=((ord[i]:Nat):Int):=by simp[ints]
 rw[hKo] at hc4
 have hksub:K.Sublist ord:=by rw[<-hkp];exact (goN_sub t _).trans (List.take_sublist _ _)
 have hkl:=hksub.length_le
 have hKi:(ints K).length=K.length:=List.length_map _
 have hri:=horn _ (List.getElem_mem hi')
 have hknd:(K++[ord[i]]).Nodup:=by
  have h1:(ord.take (i+1)).Nodup:=hond.sublist (List.take_sublist _ _)
  rw[take_succ hi'] at h1
  exact h1.sublist ((by rw[<-hkp];exact goN_sub t _:K.Sublist (ord.take i)).append (List.Sublist.refl _))
 have hkr:∀x∈K++[ord[i]],x<t.reels.length:=fun x hx=>by
  rcases List.mem_append.1 hx with g|g
  ·exact horn x (hksub.subset g)
  ·rw[List.mem_singleton.1 g];exact hri
 have hgs:goN t (ord.take (i+1))=stepN t (goN t (ord.take i)) ord[i]:=by rw[take_succ hi',goN_snoc]
 generalize hrr:ord[i]=r at *
 have hg1a:=(Ext.rsv h1).get hg1
 refine zz ?_
 refine Wo_do rfl rfl rfl rfl (A_ix Und.h Tsz.h rfl rfl) ?_
 refine zz ?_
 refine Wc_draw hmix [0,0,2,0,8,30,63] [0,1,3,4] (some 2) [([],(some 5)),([],(some 6)),([],none)] (by kernel_rfl) (by kernel_rfl) ?_
 refine z_r ?_;refine z_m ?_;refine z_m ?_
 refine Wp_new (nk:=.sl _ _) rfl rfl rfl rfl rfl (fun _ _ hs=>N_bs hs Und.h Tsz.h Zr.h rfl rfl rfl rfl rfl) ?_
 refine Wp_eff (h1:=(rsv h1)) [1] (by kernel_rfl) rfl (Stl_nil rfl) rfl rfl rfl (W1_wfK (W1_call rfl rfl rfl rfl rfl Bod.h (clone_sv (hF2.ext (Ext.rsv h1)) (by omega)) (fun v24 h4 hv hw4=>?_) (fun _ _ hR=>hR.elim)))
 obtain⟨hF24,hE4⟩:=hv
 have hE14:=(Ext.rsv h1).trans hE4
 have hnx4:h1.nx<h4.nx:=hE4.2.1
 have hU4:=Upd.mk' h4 h1.nx (.cells [i64 (r:Nat)] 3 false)
 have hE4':=hU4.ext hE14 hw1 (Nat.le_refl _)
 have hw4':=hw4.upd hU4 hnx4
 have hF24':=(hF24.updL hU4 (Nat.lt_succ_self _)).base (h0:=h1) (Ext.rsv h1).2.1
 have hg4:=hU4.at'
 have hg14:=hE4'.get hg1
 have hg14o:=hE14.get hg1
 refine Wp_eff (h1:=(h4.set h1.nx (.cells [i64 (r:Nat)] 3 false))) [1,2,3,4] (by kernel_rfl) rfl (by refine Stl_new (i:=4) (nk:=.sl _ _) rfl rfl rfl rfl rfl (fun _ _ hs=>N_bs hs Und.h Tsz.h Zr.h rfl rfl rfl rfl rfl) rfl ?_;refine t_m 3 ?_;refine t_r 0 ?_;exact Stl_nil rfl) rfl rfl rfl (W1_wfK (W1_appendF (by':=8) (k:=1) (n:=(ints K).length) (l:=[i64 (r:Nat)]) rfl hw1 hw4' hE4' rfl rfl rfl rfl Und.h inferInstance rfl rfl hF24' ((FreshSl.lit (h0:=h1) (n:=1) (sz:=1) hg4 rfl (Nat.le_refl _)).src (dd:=.slice 3) Und.h (by intro k;simp)) rfl rfl (by omega) (by omega) (fun v27 h5 hF27 hE5 hK5 hx5 hv5 hw5=>?_)))
 rw[<-List.map_singleton (f:=i64),<-List.map_append,<-ints_snoc] at hF27
 have hcl:(ints (K++[r])).length=(ints K).length+1:=by rw[ints_snoc,List.length_append];rfl
 rw[<-hcl] at hF27
 obtain⟨a27,rfl,_,hs27⟩:=hF27.srcAt
 have hg15:=hE5.get hg1
 have hfit:=fits_sv (gb:=57) (fb:=[]) (cb:=[]) (bar:=fun _=>false) (cap:=(ints (K++[r])).length) (ht0.ext (hE1.trans hE5)) hf hV hs27.1 (ints_nodup hknd) (fun x hx=>by
  obtain⟨q,hq,rfl⟩:=List.mem_map.1 hx
  have:=hkr q hq;omega) (by omega) Bod.h (fun h3 _ p=>free_sv p h3)
 rw[show natsL (ints (K++[r]))=K++[r] from natsL_cast _] at hfit
 refine Wp_eff (h1:=h5) [0,1,2,3,4,5] (by kernel_rfl) rfl (by refine t_r 0 ?_;exact Stl_nil rfl) rfl rfl rfl (W1_call rfl rfl rfl rfl rfl Bod.h hfit (fun v28 h6 hv=>?_) (fun _ _ hR=>hR.elim))
 obtain⟨b28,rfl,hb28,hE6⟩:=hv
 have hg16:=hE6.get hg15
 refine Wp_end (h1:=h6) (Stl_nil rfl) rfl ?_
 have hE16:=hE5.trans hE6
 replace hO:=hO.ext hE16
 replace hE1:=hE1.trans hE16
 replace hc4:=hE16.cell hc4
 clear hg16 hg15 hfit hs27 hF27 hg14o hg14 hg4 hF24' hw4' hE4' hU4 hnx4 hE14 hE4 hF24 hw4 hg1a hs16 hall hE16 hE6 hE5 hK5 hx5 hv5 hw5 hg1 hF2 hF16 hw1
 clear h4 h5
 refine Wc_wf fun hw6=>?_
 have hF2:FreshSl h h6 v2 3 1 _ _:=hO.p1
 have hF3:FreshSl h h6 v3 61 2 _ _:=hO.p2
 have hg1:h6.get h.nx=some (.cells [i64 t.first,i64 t.days,.slice am t.machines.length cm,.slice ar t.reels.length cr] 25 false):=hO.tail.p4
 cases b28
 rotate_left
 ·have hyes:fitN t (K++[r]):=hb28.1 rfl
  have hst:stepN t (goN t (ord.take i)) r=(K++[r],(goN t (ord.take i)).2):=by unfold stepN;rw[hkp,if_pos hyes]
  rw[hst] at hgs
  refine zz ?_
  refine Wo_bs rfl rfl Und.h Tsz.h Zr.h rfl rfl rfl rfl rfl fun h7 hE7 hW7 hg7 hx7=>?_
  refine Wo_appendO (by':=8) (sz:=1) (k:=1) (n:=(ints K).length) (l:=[i64 (r:Nat)]) hw (hE1.trans hE7) rfl rfl rfl rfl rfl Und.h inferInstance rfl rfl (hO.ext hE7) ((FreshSl.lit (h0:=h) (n:=1) (sz:=1) hg7 rfl hE1.2.1).src (dd:=.slice 3) Und.h (by intro k;simp)) rfl rfl (by omega) (by omega) fun v32 h8 hW8 hO8 hE8=>?_
  rw[<-List.map_singleton (f:=i64),<-List.map_append,<-ints_snoc,<-hcl] at hO8
  refine zz ?_
  refine⟨i+1,(by show ord.length-(i+1)<ord.length-i;omega),rfl,hi',hE8,v32,v3,P,?_,?_,rfl,rfl,rfl,rfl,rfl,rfl,trivial⟩
  ·rw[hgs];exact hO8
  ·rw[hgs];exact hP
 have hno:¬fitN t (K++[r]):=fun g=>nomatch hb28.2 g
 have hst:stepN t (goN t (ord.take i)) r=(K,(goN t (ord.take i)).2++[(r,byN t K r)]):=by unfold stepN;rw[hkp,if_neg hno]
 rw[hst] at hgs
 refine zz ?_
 refine Wo_do rfl rfl rfl rfl (A_build rfl rfl) ?_
 refine Wo_allocStore rfl rfl Zr.h Tsz.h rfl (fun _=>rfl) rfl rfl rfl fun h7 hE7 hW7 hg7 hx7=>?_
 have hO7:=(hO.newCe hw6 hE1.2.1 hE7 hg7 (Nat.le_refl _)).nilSl 3 1
 replace hE1:=hE1.trans hE7
 obtain⟨a2,rfl,_,-⟩:=hF2.srcAt
 generalize h6.nx=c6 at *
 clear hO hg1 hg7 hx7 hE7 hW7 hF2 hF3 hb28 hw6 hc4
 clear h6
 refine zz ?_
 refine Wc_loop (fun (k:Nat) m ds h'=>ds=[]/\k<=K.length/\Ext h h'/\∃(vB:Value),Own h h' [slI h vB 3 1 ((ints (byK t K r k)).map i64) (ints (byK t K r k)).length,ceI c6 [i64 (r:Nat),vB] 61 false,slI h (.slice a2 (ints K).length (ints K).length) 3 1 ((ints K).map i64) (ints K).length,slI h v3 61 2 (P.flatMap latRow) P.length,lvI h P,slI h (.slice (some ⟨b4,o4,oa4⟩) (ints ord).length (ints ord).length) 3 1 ((ints ord).map i64) (ints ord).length,ceI h.nx [i64 t.first,i64 t.days,.slice am t.machines.length cm,.slice ar t.reels.length cr] 25 false] ∧
   AllK m [(1,ptr h.nx),(2,.slice a2 (ints K).length (ints K).length),(3,v3),(5,i64 (r:Nat)),(6,ptr c6),(16,.slice (some ⟨b4,o4,oa4⟩) (ints ord).length (ints ord).length),(17,i64 (ints ord).length),(18,i64 i),(35,.slice a2 (ints K).length (ints K).length),(36,i64 (ints K).length),(37,i64 k)]) (fun k=>K.length-k) 0 ?_ ?_
 ·exact⟨rfl,Nat.zero_le _,hE1,_,hO7,rfl,rfl,rfl,rfl,rfl,rfl,rfl,rfl,rfl,rfl,rfl,trivial⟩
 clear hO7 hE1
 clear h7
 rintro k m ds g0 ⟨rfl,hk,hE1,vB,hO,hall⟩
 refine Wc_wf fun hw1=>?_
 refine Wc.le ?_ (Le.kn hall)
 have hF2:FreshSl h g0 (.slice a2 (ints K).length (ints K).length) 3 1 ((ints K).map i64) (ints K).length:=hO.p3
 have hg1:g0.get h.nx=some (.cells [i64 t.first,i64 t.days,.slice am t.machines.length cm,.slice ar t.reels.length cr] 25 false):=hO.tail.tail.tail.p4
 obtain⟨a2',e2,_,hs2⟩:=hF2.srcAt
 simp only[Value.slice.injEq] at e2
 obtain⟨rfl,_,_⟩:=e2
 refine zz ?_
 refine Wo_dec rfl rfl rfl rfl (A_lss rfl rfl) (fun hkp2=>?_) (fun hkp2=>?_)
 rotate_left
 ·have:k=K.length:=by omega
  subst this
  have hBe:byK t K r K.length=byN t K r:=rfl
  rw[hBe] at hO
  have hiB:(ints (byN t K r)).length=(byN t K r).length:=List.length_map _
  have hlB:(byN t K r).length<=K.length:=byK_len t K r K.length
  have hFB:FreshSl h g0 vB 3 1 _ _:=hO.p1
  have hgc:g0.get c6=some (.cells [i64 (r:Nat),vB] 61 false):=hO.p2
  clear hF2 hs2 hg1
  refine zz ?_
  refine Wo_callr rfl rfl rfl rfl rfl Bod.h rfl rfl (sortInts_sv hFB (by omega)) ?_
  rintro _ g1 ⟨rfl,hFs,hX⟩
  have hOs:=hO.put (y:=slI h vB 3 1 ((sortI (ints (byN t K r))).map i64) (ints (byN t K r)).length) hw1 hE1.2.1 hX hFs fun c hc=>.inl hc
  replace hE1:=hO.grows hX hE1 hw
  clear hFB hgc hX hO hw1 hall
  clear g0
  have hgc:g1.get c6=some (.cells [i64 (r:Nat),vB] 61 false):=hOs.p2
  obtain⟨aB,rfl,_,-⟩:=hFs.is
  clear hFs
  refine zz ?_
  refine Wo_bs rfl rfl Und.h Tsz.h Zr.h rfl rfl rfl rfl rfl fun g2 hE2 hW2 hg2 hx2=>?_
  refine Wo_appendO (by':=32) (sz:=2) (k:=1) (n:=P.length) (l:=[i64 (r:Nat),.slice aB (ints (byN t K r)).length (ints (byN t K r)).length]) hw (hE1.trans hE2) rfl rfl rfl rfl rfl Und.h inferInstance rfl rfl (hOs.up4.ext hE2) ((FreshSl.lit (h0:=h) (n:=1) (sz:=2) (cs:=[i64 (r:Nat),.slice aB (ints (byN t K r)).length (ints (byN t K r)).length]) hg2 rfl hE1.2.1).src (dd:=.slice 61) Und.h (by intro k;simp)) rfl rfl (by omega) (by omega) fun v69 g3 hW3 hO3 hE3=>?_
  have hO4:=((hO3.sub (l':=[_,_,_,_,_,_]) (.cons_cons _ (.cons_cons _ (.cons _ (.refl _))))).up4).up3
  have hO5:=(hO4.merge (z:=lvI h (P++[(latP (r,byN t K r),.slice aB (ints (byN t K r)).length (ints (byN t K r)).length)])) (fun hx hy p hp=>by
   rcases List.mem_append.1 hp with g|g
   ·exact hy p g
   ·rw[List.mem_singleton.1 g]
    show FreshSl h g3 _ 3 1 ((sortI (ints (byN t K r))).map i64) (sortI (ints (byN t K r))).length
    rw[sortI_len]
    exact hx) (fun c hc=>by
   obtain⟨p,hp,hb⟩:=hc
   rcases List.mem_append.1 hp with g|g
   ·exact .inr ⟨p,g,hb⟩
   ·rw[List.mem_singleton.1 g] at hb;exact .inl hb)).dn3.up2
  refine zz ?_
  refine⟨i+1,(by show ord.length-(i+1)<ord.length-i;omega),rfl,hi',hE3,_,v69,P++[(latP (r,byN t K r),.slice aB (ints (byN t K r)).length (ints (byN t K r)).length)],?_,?_,rfl,rfl,rfl,rfl,rfl,rfl,trivial⟩
  ·rw[hgs,List.flatMap_append,List.length_append]
   exact hO5
  ·rw[hgs,List.map_append,List.map_append,hP]
   rfl
 have hk':k<K.length:=by omega
 obtain⟨b2,o2,oa2,rfl,hc2⟩:=hs2.1 k (by omega)
 have hKk:(ints K)[k]'(by omega)=((K[k]:Nat):Int):=by simp[ints]
 rw[hKk] at hc2
 obtain⟨v44,hs44,hA44⟩:=A_freshTo (P:=Tryz.prog) (t:=31) (tX:=31) (ki:=.i64) (dd:=.slice 3) (k:=k) hF2 (by omega) Und.h Tsz.h Und.h (by intro k;simp) (by omega)
 obtain⟨v48,hs48,hA48⟩:=A_freshFrom (P:=Tryz.prog) (t:=31) (tX:=31) (ki:=.i64) (dd:=.slice 3) (k:=k+1) hF2 (by omega) Und.h Tsz.h Und.h (by intro k;simp) (by omega)
 obtain⟨a44,c44,rfl,-⟩:=asrc_list Und.h (hs44 g0 h hF2)
 obtain⟨a48,c48,rfl,-⟩:=asrc_list Und.h (hs48 g0 h hF2)
 have hEa1:=Ext.add hw1 (.cells [i64 (r:Nat)] 3 false)
 have hwa:=hw1.add (.cells [i64 (r:Nat)] 3 false)
 have hEa2:=Ext.add hwa (.cells [.slice a44 k c44,.slice a48 ((ints K).length-(k+1)) c48,.slice (some ⟨g0.nx,0,none⟩) 1 1] 31 false)
 have hwb:=hwa.add (.cells [.slice a44 k c44,.slice a48 ((ints K).length-(k+1)) c48,.slice (some ⟨g0.nx,0,none⟩) 1 1] 31 false)
 have hEa:=hEa1.trans hEa2
 have hlitg:((g0.add (.cells [i64 (r:Nat)] 3 false)).add (.cells [.slice a44 k c44,.slice a48 ((ints K).length-(k+1)) c48,.slice (some ⟨g0.nx,0,none⟩) 1 1] 31 false)).get g0.nx=some (.cells [i64 (r:Nat)] 3 false):=hEa2.get Heap.get_add_same
 have hrowg:((g0.add (.cells [i64 (r:Nat)] 3 false)).add (.cells [.slice a44 k c44,.slice a48 ((ints K).length-(k+1)) c48,.slice (some ⟨g0.nx,0,none⟩) 1 1] 31 false)).get (g0.add (.cells [i64 (r:Nat)] 3 false)).nx=some (.cells [.slice a44 k c44,.slice a48 ((ints K).length-(k+1)) c48,.slice (some ⟨g0.nx,0,none⟩) 1 1] 31 false):=Heap.get_add_same
 have hcat:([(.slice a44 k c44,((ints K).map i64).take k),(.slice a48 ((ints K).length-(k+1)) c48,((ints K).map i64).drop (k+1)),(.slice (some ⟨g0.nx,0,none⟩) 1 1,[i64 (r:Nat)])]:List (Value×List Value)).flatMap Prod.snd=(ints (K.take k++K.drop (k+1)++[r])).map i64:=by
  simp[ints,List.map_take,List.map_drop]
 have hcl2:(ints (K.take k++K.drop (k+1)++[r])).length=(ints K).length:=by
  rw[hKi];simp[ints];omega
 have hcon:=concat_sv (L:=[(.slice a44 k c44,((ints K).map i64).take k),(.slice a48 ((ints K).length-(k+1)) c48,((ints K).map i64).drop (k+1)),(.slice (some ⟨g0.nx,0,none⟩) 1 1,[i64 (r:Nat)])]) (a:=some ⟨(g0.add (.cells [i64 (r:Nat)] 3 false)).nx,0,none⟩) (c:=3) (n:=(ints K).length) hwb (by unfold lenS;rw[hcat,List.length_map,hcl2]) (by omega) (by omega) (by show 3<1000000;omega) (fun j hj=>by
  refine⟨_,_,_,rfl,cellAt_cells hrowg ?_⟩
  have hj:j<3:=hj
  match j,hj with
  | 0,_=>rfl
  | 1,_=>rfl
  | 2,_=>rfl) (fun p hp=>by
  have q1:(((ints K).map i64).take k).length=k:=by rw[List.length_take,List.length_map];omega
  have q2:(((ints K).map i64).drop (k+1)).length=(ints K).length-(k+1):=by rw[List.length_drop,List.length_map]
  simp only[List.mem_cons,List.not_mem_nil,or_false] at hp
  rcases hp with rfl|rfl|rfl
  ·refine⟨⟨a44,c44,by simp only[q1]⟩,by rw[<-List.map_take];exact allOne_i64 _,fun h2 hE2=>?_⟩
   have:=hs44 h2 h ((hF2.ext hEa).ext hE2)
   simp only[q1];exact this
  ·refine⟨⟨a48,c48,by simp only[q2]⟩,by rw[<-List.map_drop];exact allOne_i64 _,fun h2 hE2=>?_⟩
   have:=hs48 h2 h ((hF2.ext hEa).ext hE2)
   simp only[q2];exact this
  ·exact⟨⟨_,_,rfl⟩,rfl,fun h2 hE2=>(FreshSl.lit (h0:=h) (n:=1) (sz:=1) (hE2.get hlitg) rfl hE1.2.1).src (dd:=.slice 3) Und.h (by intro k;simp)⟩)
 rw[hcat] at hcon
 refine zz ?_
 refine Wo_do rfl rfl rfl rfl (A_ix Und.h Tsz.h rfl rfl) ?_
 refine zz ?_
 refine Wc_draw hmix [0,0,3,0,0,16,56,0,128,511,1023,2047] [0,1,2,3,4,5,6,7,8,9] (some 10) [([],(some 11)),([],none)] (by kernel_rfl) (by kernel_rfl) ?_
 refine z_m ?_;refine z_m ?_;refine Wp_pure rfl rfl rfl rfl rfl (fun _=>hA44 rfl rfl) ?_;refine z_m ?_;refine z_m ?_;refine z_y ?_;refine Wp_pure rfl rfl rfl rfl rfl (fun _=>hA48 rfl rfl) ?_;refine z_m ?_
 refine Wp_new (nk:=.sl _ _) rfl rfl rfl rfl rfl (fun _ _ hs=>N_bs hs Und.h Tsz.h Zr.h rfl rfl rfl rfl rfl) ?_
 refine Wp_new (nk:=.sl _ _) rfl rfl rfl rfl rfl (fun _ _ hs=>N_bs hs Und.h Tsz.h Zr.h rfl rfl rfl rfl rfl) ?_
 refine Wp_eff (h1:=((g0.add _).add _)) [0,1,2,3,4,5,6,7,8,9] (by kernel_rfl) rfl (Stl_nil rfl) rfl rfl rfl (W1_wfK (W1_call rfl rfl rfl rfl rfl Bod.h hcon (fun v52 h9 hv hw9=>?_) (fun _ _ hR=>hR.elim)))
 obtain⟨hF52,hE9⟩:=hv
 have hE19:=hEa.trans hE9
 replace hF52:=hF52.base (h0:=h) (hE1.trans hEa).2.1
 rw[<-hcl2] at hF52
 obtain⟨a52,rfl,_,hs52⟩:=hF52.srcAt
 refine Wp_eff (h1:=h9) [0,1,2,3,4,5,6,7,8,9,10] (by kernel_rfl) rfl (Stl_nil rfl) rfl rfl rfl (W1_op rfl rfl (A_assign rfl) ?_)
 refine Wp_end (h1:=h9) (Stl_nil rfl) rfl ?_
 replace hO:=hO.ext hE19
 replace hg1:=hE19.get hg1
 replace hc2:=hE19.cell hc2
 replace hE1:=hE1.trans hE19
 have hnd2:(K.take k++K.drop (k+1)++[r]).Nodup:=by
  refine List.Nodup.sublist ?_ hknd
  refine List.Sublist.append ?_ (List.Sublist.refl _)
  conv=>rhs;rw[<-List.take_append_drop k K]
  exact List.Sublist.append (List.Sublist.refl _) (by rw[List.drop_eq_getElem_cons hk'];exact List.sublist_cons_self _ _)
 have hin2:∀x∈K.take k++K.drop (k+1)++[r],x<t.reels.length:=fun x hx=>by
  rcases List.mem_append.1 hx with g|g
  ·refine hkr x (List.mem_append_left _ ?_)
   rcases List.mem_append.1 g with g|g
   ·exact List.mem_of_mem_take g
   ·exact List.mem_of_mem_drop g
  ·exact hkr x (List.mem_append_right _ g)
 have hfit:=fits_sv (gb:=57) (fb:=[]) (cb:=[]) (bar:=fun _=>false) (cap:=(ints (K.take k++K.drop (k+1)++[r])).length) (ht0.ext hE1) hf hV hs52.1 (ints_nodup hnd2) (fun x hx=>by
  obtain⟨q,hq,rfl⟩:=List.mem_map.1 hx
  have:=hin2 q hq;omega) (by omega) Bod.h (fun h3 _ p=>free_sv p h3)
 rw[show natsL (ints (K.take k++K.drop (k+1)++[r]))=K.take k++K.drop (k+1)++[r] from natsL_cast _] at hfit
 have hbs:=byK_succ (t:=t) (r:=r) hk'
 refine zz ?_
 refine Wo_callr rfl rfl rfl rfl rfl Bod.h rfl rfl hfit ?_
 rintro _ h10 ⟨b10,rfl,hb10,hE10⟩
 replace hO:=hO.ext hE10
 replace hE1:=hE1.trans hE10
 clear hfit hs52 hF52 hE19 hg1 hc2 hE10 hE9 hw9 hcon hwb hwa hlitg hrowg hEa hEa1 hEa2 hF2 hs2 hs44 hA44 hs48 hA48 hall
 clear h9
 refine Wo_wf fun hw10=>?_
 have hlB:(byK t K r k).length<=k:=byK_len t K r k
 cases b10
 ·have hno2:¬fitN t (K.take k++K.drop (k+1)++[r]):=fun g=>nomatch hb10.2 g
  rw[if_neg hno2,List.append_nil] at hbs
  rw[<-hbs] at hO
  refine zz ?_
  exact⟨k+1,(by show K.length-(k+1)<K.length-k;omega),rfl,hk',hE1,vB,hO,rfl,rfl,rfl,rfl,rfl,rfl,rfl,rfl,rfl,rfl,rfl,trivial⟩
 have hyes2:fitN t (K.take k++K.drop (k+1)++[r]):=hb10.1 rfl
 rw[if_pos hyes2] at hbs
 have hgc:h10.get c6=some (.cells [i64 (r:Nat),vB] 61 false):=hO.p2
 have hiB:(ints (byK t K r k)).length=(byK t K r k).length:=List.length_map _
 refine zz ?_
 refine Wo_bs rfl rfl Und.h Tsz.h Zr.h rfl rfl rfl rfl rfl fun h11 hE11 hW11 hg11 hx11=>?_
 refine Wo_appendO (by':=8) (sz:=1) (k:=1) (n:=(ints (byK t K r k)).length) (l:=[i64 (K[k]:Nat)]) hw (hE1.trans hE11) rfl rfl rfl rfl rfl Und.h inferInstance rfl rfl (hO.ext hE11) ((FreshSl.lit (h0:=h) (n:=1) (sz:=1) hg11 rfl hE1.2.1).src (dd:=.slice 3) Und.h (by intro k;simp)) rfl rfl (by omega) (by omega) fun vB2 h12 hW12 hO12 hE12=>?_
 obtain⟨aB2,rfl,_,-⟩:=(show FreshSl h h12 vB2 3 1 _ _ from hO12.p1).is
 have hO13:=hO12.up2
 refine zz ?_
 refine Wo_storeO hw hE12 rfl Tsz.h rfl rfl hO13 rfl rfl rfl fun h13 hW13 hO14 hE14=>?_
 have hO15:=hO14.up2
 rw[<-List.map_singleton (f:=i64),<-List.map_append,<-ints_snoc,<-hbs] at hO15
 have hlc:(ints (byK t K r k)).length+1=(ints (byK t K r (k+1))).length:=by rw[hbs,ints_snoc,List.length_append];rfl
 rw[hlc] at hO15
 refine zz ?_
 exact⟨k+1,(by show K.length-(k+1)<K.length-k;omega),rfl,hk',hE14,_,hO15,rfl,rfl,rfl,rfl,rfl,rfl,rfl,rfl,rfl,rfl,rfl,trivial⟩
end Go.Dw
/- Y6: contracts: the program's own Plan, part 1: places given. -/
namespace Go.Dw
open Go Go.Dx Go.Proofs Go.Mt
set_option maxRecDepth 100000
def GivenIs (h:Heap)(bm:Nat)(G:List Pl):Prop:=∃lu,MapB placeK h bm lu/\Once lu/\∀p,lkp p lu=if p∈G then some (.bool true) else none
theorem GivenIs.some' {h h':Heap}{b:Nat}{G:List Pl}(a:GivenIs h b G)(he:∀o,h.get b=some o->h'.get b=some o):GivenIs h' b G:=by
 obtain⟨l,h1,h2⟩:=a;exact⟨l,MapB.some placeK h1 he,h2⟩
theorem GivenIs.ext {h h':Heap}{b:Nat}{G:List Pl}(a:GivenIs h b G)(he:Ext h h'):GivenIs h' b G:=a.some' fun _=>he.get
theorem GivenIs.congr {h:Heap}{b:Nat}{G G':List Pl}(a:GivenIs h b G)(hg:∀p,p∈G ↔ p∈G'):GivenIs h b G':=by
 obtain⟨l,h1,h2,h3⟩:=a
 refine⟨l,h1,h2,fun p=>?_⟩
 rw[h3];simp only[hg p]
def givI (bm:Nat)(G:List Pl):It where
 S:=fun c=>c=bm
 p:=fun h=>GivenIs h bm G
 loc:=fun hk a=>a.some' fun o ho=>hk _ o rfl ho
 ex:=fun {h c} a hc=>by obtain⟨l,⟨es,cl,h1,_⟩,_⟩:=a;exact⟨_,hc ▸ h1⟩
theorem given_sv {h:Heap}{c6 bm:Nat}{G:List Pl}{op:Bool}{p:Pl}(hg:h.get c6=some (.cells [.map (some bm)] 112 op))(hm:GivenIs h bm G):Sv Tryz.prog 63 [plV p,.pointer (some ⟨c6,0,none⟩)] h (RetP fun v h'=>v=.bool (barL G p)/\Ext h h'):=by
 refine Sv_enter Tryz.func63 rfl (by rw[Tryz.ntmps63];rfl) ?_;show Wc Tryz.prog ⟨63,7,none⟩ _ _ _ _ _
 refine zz ?_
 refine Wo_box rfl rfl rfl fun h1 hE1 hW1 hg1 hx1=>?_
 obtain⟨lu,hm1,-,hk⟩:=hm.ext hE1
 replace hg:=hE1.get hg
 refine zz ?_
 by_cases hin:p∈G
 ·refine Wo_do rfl rfl rfl rfl (A_lookupV placeK (k:=p) (v:=.bool true) Und.h Zr.h rfl hm1 rfl (by rw[hk,if_pos hin];rfl)) ?_
  refine zz ?_
  exact Wc_ret (Lv_ret rfl ⟨by rw[barL_iff.2 hin];rfl,hE1⟩)
 ·refine Wo_do rfl rfl rfl rfl (A_lookupV placeK (k:=p) (v:=.bool false) Und.h Zr.h rfl hm1 rfl (by rw[hk,if_neg hin];rfl)) ?_
  refine zz ?_
  exact Wc_ret (Lv_ret rfl ⟨by rw[barL_ff.2 hin];rfl,hE1⟩)
end Go.Dw
/- Y7: contracts: the program's own Plan, part 2. -/
namespace Go.Dw
open Go Go.Dx Go.Proofs Go.Mt
set_option maxRecDepth 100000
theorem Own.join {h0 h h':Heap}{l l2:List It}(hO:Own h0 h l)(hw:WF h)(hn:h0.nx<=h.nx)(he:Ext h h')(h2:Own h h' l2):Own h0 h' (l2++l):=by
 refine⟨fun x hx=>?_,fun x hx c hc=>?_,List.pairwise_append.2 ⟨h2.ap,hO.ap,fun y hy z hz c hc hzc=>?_⟩⟩
 ·rcases List.mem_append.1 hx with g|g
  ·exact h2.has x g
  ·exact (hO.ext he).has x g
 ·rcases List.mem_append.1 hx with g|g
  ·exact Nat.le_trans hn (h2.lo x g c hc)
  ·exact hO.lo x g c hc
 ·obtain⟨o,ho⟩:=z.ex (hO.has z hz) hzc
  have h3:=h2.lo y hy c hc
  have:=hw _ _ ho;omega
theorem Own.shuf {h0 h:Heap}{l:List It}(hO:Own h0 h l)(x:It)(p q:List Nat)(hp:p.Perm q)(e:l=p.map fun i=>l.getD i x):Own h0 h (q.map fun i=>l.getD i x):=hO.perm ((List.Perm.of_eq e).trans (hp.map _))
theorem FreshSl.del {h0 h1 h:Heap}{v:Value}{el:TypeId}{sz n:Nat}{cs:List Value}{rs:List Nat}(hF:FreshSl h0 h v el sz cs n)(hC:Colls h1 h rs):FreshSl h0 (delL h rs) v el sz cs n:=hF.keep fun b o hb hg=>by
 obtain⟨op,h2⟩:=hF.got hb
 rw[h2] at hg;cases hg
 exact hC.get h2
theorem Own.at {h0 h:Heap}{l:List It}(hO:Own h0 h l)(n:Nat){x:It}(e:l[n]?=some x):x.p h:=hO.has x (List.mem_of_getElem? e)
def loI (b:Nat)(o:AO):It where
 S:=fun c=>c=b
 p:=fun h=>h.get b=some o
 loc:=fun hk hp=>hk _ _ rfl hp
 ex:=fun hp hc=>⟨_,hc ▸ hp⟩
theorem Own.loSet {h0 h h':Heap}{l:List It}{b:Nat}{o o':AO}(hO:Own h0 h (loI b o::l))(hw0:WF h0)(he0:Ext h0 h)(hU:Upd h b o' h'):Own h0 h' (loI b o'::l)/\Ext h0 h':=by
 have hap:=List.pairwise_cons.1 hO.ap
 refine⟨⟨fun x hx=>?_,fun x hx c hc=>?_,List.pairwise_cons.2 ⟨fun z hz c hc=>hap.1 z hz c hc,hap.2⟩⟩,hU.ext he0 hw0 (hO.lo _ List.mem_cons_self b rfl)⟩
 ·rcases List.mem_cons.1 hx with rfl|hx
  ·exact hU.at'
  ·exact x.loc (fun c o hc hg=>hU.get (fun e=>hap.1 x hx c e hc) hg) (hO.has x (List.mem_cons_of_mem _ hx))
 ·rcases List.mem_cons.1 hx with rfl|hx
  ·exact hO.lo _ List.mem_cons_self c hc
  ·exact hO.lo x (List.mem_cons_of_mem _ hx) c hc
set_option maxHeartbeats 4000000 in
theorem rescuePlan_sv {tc:List Value}{t:Task}{h:Heap}(ht:TaskAt h tc t)(hf:t.Fit) :
  Sv Tryz.prog 24 [.agg ⟨tc⟩] h (RetP fun v h'=>PlanV t h' v/\Ext h h'):=by
 have ht0:=ht
 obtain⟨am,cm,ar,cr,rfl,hM,hR⟩:=ht
 refine Sv_wf fun hw=>?_
 refine Sv_enter Tryz.func24 rfl (by rw[Tryz.ntmps24];rfl) ?_;show Wc Tryz.prog ⟨24,66,none⟩ _ _ _ _ _
 refine zz ?_
 refine Wo_box rfl rfl rfl fun h1 hE1 hW1 hg1 hn1=>?_
 refine Wo_alloc rfl rfl Zr.h fun h2 hE2 hW2 hg2 hn2=>?_
 have hO1:=((Own.nil h h).newCe hw (Nat.le_refl _) hE1 hg1 (Nat.le_refl _)).newCe hW1 hE1.2.1 hE2 hg2 (Nat.le_refl _)
 replace hE1:=hE1.trans hE2
 replace hg1:=hE2.get hg1
 clear hE2 hW1
 generalize h1.nx=c2 at *
 clear h1
 refine zz ?_
 refine Wo_callE rfl rfl rfl rfl rfl Bod.h rfl rfl (rescueCheck_sv (ht0.ext hE1) hf) fun h3 hE3=>?_
 replace hO1:=hO1.ext hE3
 replace hE1:=hE1.trans hE3
 replace hg1:=hE3.get hg1
 replace hg2:=hE3.get hg2
 clear hE3 hW2 hn2 hn1
 clear h2
 refine Wo_wf fun hw3=>?_
 unfold tup3
 refine zz ?_
 by_cases c0:errS t=0
 rotate_left
 ·refine Wo_do rfl rfl rfl rfl (A_tt c0 (A_neq rfl rfl)) ?_
  refine zz ?_
  refine Wo_store rfl Tsz.h rfl rfl hg2 rfl rfl rfl fun h4 hU4=>?_
  refine zz ?_
  have hc2:h.nx<=c2:=hO1.lo _ List.mem_cons_self c2 rfl
  refine Wc_ret (Lv_ret (resk_cell rfl (aload_cell OneC.h (cellAt_cells hU4.at' rfl)) (resk_tmp rfl (resk_tmp rfl rfl))) ⟨?_,hU4.ext hE1 hw hc2⟩)
  unfold PlanV
  rw[planS_bad c0]
  exact⟨none,none,rfl,(fun i hi=>nomatch hi),(fun i hi=>nomatch hi)⟩
 refine Wo_do rfl rfl rfl rfl (A_ff (fun x=>x c0) (A_neq rfl rfl)) ?_
 have hV:=valid_of c0
 refine zz ?_
 refine Wo_callr rfl rfl rfl rfl rfl Bod.h rfl rfl (choose_sv (ht0.ext hE1) hf hV) ?_
 rintro _ h4 ⟨v5,v3,P,rfl,hOc,hP,hE4⟩
 have hb3:=hE1.2.1
 have hO2:=(((((hO1.join hw3 hE1.2.1 hE4 hOc).as (y:=slI h v5 3 1 ((keptI t).map i64) (keptI t).length) (fun x=>FreshSl.base x hb3) (fun _ hc=>hc)).dn3.as (y:=slI h v3 61 2 (P.flatMap latRow) P.length) (fun x=>FreshSl.base x hb3) (fun _ hc=>hc)).dn3.as (y:=lvI h P) (fun x p hp=>FreshSl.base (x p hp) hb3) (fun _ hc=>hc)).dn3).nilSl 59 3
 clear hb3
 replace hE1:=hE1.trans hE4
 replace hg1:=hE4.get hg1
 clear hO1 hE4 hOc hg2 hw3
 clear h3
 refine Wo_wf fun hw4=>?_
 obtain⟨a5,rfl,_,-⟩:=(show FreshSl h h4 v5 3 1 _ _ from hO2.p2).srcAt
 refine zz ?_
 refine Wo_allocStore rfl rfl Zr.h Tsz.h rfl (fun _=>rfl) rfl rfl rfl fun h5 hE5 hW5 hg5 hx5=>?_
 have hO3:=hO2.newCe hw4 hE1.2.1 hE5 hg5 (Nat.le_refl _)
 replace hE1:=hE1.trans hE5
 replace hg1:=hE5.get hg1
 clear hO2 hE5 hg5 hx5 hw4
 generalize h4.nx=c5 at *
 clear h4
 refine zz ?_
 refine Wo_mkMap rfl rfl fun h6 hE6 hW6 hgm hx6=>?_
 have hO4:=hO3.new (y:=givI h5.nx []) hW5 hE1.2.1 hE6 ⟨[],MapB.new _ hgm,List.nodup_nil,fun p=>by simp[lkp]⟩ (fun c (hc:c=_)=>by rw[hc];exact Nat.le_refl _)
 replace hE1:=hE1.trans hE6
 replace hg1:=hE6.get hg1
 clear hO3 hE6 hgm hx6 hW5
 generalize h5.nx=bm at *
 clear h5
 refine Wo_allocStore rfl rfl Zr.h Tsz.h rfl (fun _=>rfl) rfl rfl rfl fun h7 hE7 hW7 hg7 hx7=>?_
 have hO5:=hO4.newCe hW6 hE1.2.1 hE7 hg7 (Nat.le_refl _)
 replace hE1:=hE1.trans hE7
 replace hg1:=hE7.get hg1
 clear hO4 hE7 hg7 hx7 hW6
 generalize h6.nx=c6 at *
 clear h6
 refine zz ?_
 refine Wo_do rfl rfl rfl rfl (A_build rfl rfl) ?_
 refine Wo_box rfl rfl rfl fun h8 hE8 hW8 hg8 hx8=>?_
 have hO6:=hO5.newCe hW7 hE1.2.1 hE8 (show h8.get h7.nx=some (.cells (benchC t am ar cm cr (.map none)) 116 false) from hg8) (Nat.le_refl _)
 replace hE1:=hE1.trans hE8
 replace hg1:=hE8.get hg1
 clear hO5 hE8 hg8 hx8 hW7
 generalize h7.nx=bb at *
 clear h7
 have hc5:h8.get c5=some (.cells [.slice a5 (keptI t).length (keptI t).length] 31 false):=hO6.tail.tail.p2
 have hkl:=keptI_len t
 have hr1:=hV.r1
 have hks:(keptS t).length=(keptI t).length:=List.length_map _
 have hO7:Own h h8 [slI h (.slice none 0 0) 59 3 [] 0,ceI c2 [.slice none 0 0] 35 false,givI bm [],slI h (.slice a5 (keptI t).length (keptI t).length) 3 1 ((keptI t).map i64) (keptI t).length,ceI bb (benchC t am ar cm cr (.map none)) 116 false,ceI c6 [.map (some bm)] 112 false,ceI c5 [.slice a5 (keptI t).length (keptI t).length] 31 false,ceI h.nx [i64 t.first,i64 t.days,.slice am t.machines.length cm,.slice ar t.reels.length cr] 25 false,slI h v3 61 2 (P.flatMap latRow) P.length,lvI h P]:=by
  exact hO6.shuf (ceI 0 [] 0 false) [0,1,2,3,4,5,6,7,8,9] [4,8,2,5,0,1,3,9,6,7] (by decide) rfl
 refine zz ?_
 refine Wc_loop (fun (i:Nat) m ds h'=>∃rs,ds=rs.map .coll/\Colls h h' rs/\i<=(keptI t).length/\Ext h h'/\∃(vT:Value) (T:List Turn) (G:List Pl),Own h h' [slI h vT 59 3 (T.flatMap tRow) T.length,ceI c2 [vT] 35 false,givI bm G,slI h (.slice a5 (keptI t).length (keptI t).length) 3 1 ((keptI t).map i64) (keptI t).length,ceI bb (benchC t am ar cm cr (.map none)) 116 false,ceI c6 [.map (some bm)] 112 false,ceI c5 [.slice a5 (keptI t).length (keptI t).length] 31 false,ceI h.nx [i64 t.first,i64 t.days,.slice am t.machines.length cm,.slice ar t.reels.length cr] 25 false,slI h v3 61 2 (P.flatMap latRow) P.length,lvI h P] ∧
   T++turnsP t G ((keptS t).drop i)=turnsP t [] (keptS t)/\T.length<=i ∧
   AllK m [(1,ptr h.nx),(2,ptr c2),(3,v3),(5,ptr c5),(6,ptr c6),(7,ptr bb),(29,.slice a5 (keptI t).length (keptI t).length),(30,i64 (keptI t).length),(31,i64 i)]) (fun i=>(keptI t).length-i) 0 ?_ ?_
 ·exact⟨[],rfl,Colls.nil _ _,Nat.zero_le _,hE1,_,[],[],hO7,rfl,Nat.le_refl _,rfl,rfl,rfl,rfl,rfl,rfl,rfl,rfl,rfl,trivial⟩
 clear hO7 hO6 hE1 hc5 hg1 hW8
 clear h8
 rintro i m ds h1 ⟨rs,rfl,hC,hi,hE1,vT,T,G,hO,hT,hTl,hall⟩
 refine Wc_wf fun hw1=>?_
 refine Wc.le ?_ (Le.kn hall)
 have hF5:FreshSl h h1 (.slice a5 (keptI t).length (keptI t).length) 3 1 ((keptI t).map i64) (keptI t).length:=hO.p4
 have hc2:h1.get c2=some (.cells [vT] 35 false):=hO.p2
 have hT1:FreshSl h h1 vT 59 3 _ _:=hO.p1
 obtain⟨a5',e5,_,hs5⟩:=hF5.srcAt
 simp only[Value.slice.injEq] at e5
 obtain⟨rfl,_,_⟩:=e5
 obtain⟨aT,rfl,_,-⟩:=hT1.is
 refine zz ?_
 refine Wo_dec rfl rfl rfl rfl (A_lss rfl rfl) (fun hip=>?_) (fun hip=>?_)
 rotate_left
 ·have:i=(keptI t).length:=by omega
  subst this
  rw[List.drop_eq_nil_of_le (by omega),turnsP,List.append_nil] at hT
  refine zz ?_
  refine Wo_store rfl Tsz.h rfl rfl hc2 rfl rfl rfl fun h2 hU2=>?_
  obtain⟨hO2,hE2⟩:=hO.up2.putCe hw1 hE1 hw hU2
  have hC2:Colls h h2 rs:=hC.keep fun r hr=>hU2.get (fun e=>by rw[e,hc2] at hr;cases hr) hr
  have hg2:=hU2.at'
  have hE3:=hC2.ext0 hE2 hw
  have hFT:FreshSl h (delL h2 rs) _ 59 3 _ _:=FreshSl.del hO2.p2 hC2
  have hO3:=hO2.tail.tail.tail.tail.tail.tail.tail.tail
  have hFL:FreshSl h (delL h2 rs) v3 61 2 (P.flatMap latRow) P.length:=FreshSl.del hO3.p1 hC2
  have hFB:(lvI h P).p (delL h2 rs):=fun p hp=>FreshSl.del ((show (lvI h P).p h2 from hO3.p2) p hp) hC2
  obtain⟨aT',eT,hTA⟩:=turns_of hFT
  simp only[Value.slice.injEq] at eT
  obtain⟨rfl,_,_⟩:=eT
  obtain⟨aL,rfl,hLA⟩:=lats_of hFL hFB
  have hPn:P.length=(lateL t).length:=by rw[<-hP,List.length_map]
  rw[hP] at hLA
  rw[turns_eq hV (BarLow.start hV) (keptS_nodup t) (fun _ hr=>keptS_lt hr)] at hT
  subst hT
  rw[hPn]
  refine zz ?_
  refine Wc_ret (Lv_retC hC2.nd hC2.defd (resk_cell rfl (aload_cell OneC.h (cellAt_cells (hC2.get hg2) rfl)) (resk_tmp rfl (resk_tmp rfl rfl))) ⟨?_,hE3⟩)
  unfold PlanV
  rw[planS_ok c0]
  exact⟨aT,aL,rfl,hTA,hLA⟩
 have hi':i<(keptI t).length:=by omega
 obtain⟨b5,o5,oa5,rfl,hc5⟩:=hs5.1 i hi'
 obtain⟨r,hre⟩:∃r:Nat,(keptI t)[i]=r:=⟨((keptI t)[i]).toNat,by have:=keptI_in (List.getElem_mem hi');omega⟩
 have hsr:(keptS t)[i]'(by omega)=r:=by simp[keptS,natsL,hre]
 have hrl:r<t.reels.length:=keptS_lt (hsr ▸ List.getElem_mem _)
 have hdr:(keptS t).drop i=r::(keptS t).drop (i+1):=by rw[List.drop_eq_getElem_cons (by omega),hsr]
 rw[hre] at hc5
 rw[hdr,turnsP] at hT
 refine zz ?_
 refine Wo_do rfl rfl rfl rfl (A_ix Und.h Tsz.h rfl rfl) ?_
 refine zz ?_
 refine Wo_alloc rfl rfl Zr.h fun h2 hE2 hW2 hg8 hn2=>?_
 have hO2:=hO.newCe hw1 hE1.2.1 hE2 hg8 (Nat.le_refl _)
 refine Wo_alloc rfl rfl Zr.h fun h3 hE3 hW3 hg9 hn3=>?_
 have hO3:=hO2.newCe hW2 (hE1.trans hE2).2.1 hE3 hg9 (Nat.le_refl _)
 replace hE1:=(hE1.trans hE2).trans hE3
 replace hC:=hC.ext (hE2.trans hE3)
 clear hO2 hO hg8 hg9 hn2 hn3 hE2 hE3 hc5 hW2 hw1 hs5 hc2 hT1 hF5
 generalize h1.nx=c8 at *
 generalize h2.nx=c9 at *
 clear h1 h2
 have hg8:h3.get c8=some (.cells [i64 0] 3 false):=hO3.p2
 refine Wo_store rfl Tsz.h rfl rfl hg8 rfl rfl rfl fun h4 hU4=>?_
 obtain⟨hO4,hE4⟩:=hO3.up2.putCe hW3 hE1 hw hU4
 have hC4:Colls h h4 rs:=hC.keep fun r hr=>hU4.get (fun e=>by rw[e,hg8] at hr;cases hr) hr
 clear hO3 hE1 hC hU4 hg8 hW3
 clear h3
 refine Wo_wf fun hw4=>?_
 have hg9:h4.get c9=some (.cells [i64 0] 3 false):=hO4.p2
 refine Wo_store rfl Tsz.h rfl rfl hg9 rfl rfl rfl fun h5 hU5=>?_
 obtain⟨hO5,hE5⟩:=hO4.up2.putCe hw4 hE4 hw hU5
 have hC5:Colls h h5 rs:=hC4.keep fun r hr=>hU5.get (fun e=>by rw[e,hg9] at hr;cases hr) hr
 clear hO4 hE4 hC4 hU5 hg9 hw4
 clear h4
 have hg9:h5.get c9=some (.cells [i64 (r:Nat)] 3 false):=hO5.p1
 refine Wo_wf fun hw5=>?_
 refine zz ?_
 refine Wo_callr rfl rfl rfl rfl rfl Bod.h rfl rfl (places_sv) ?_
 rintro v h6 ⟨p1,p2,rfl,hE6,gp1,gp2,hn1,hn2,hx1,hx2⟩
 have hap:p1≠p2:=fun e=>by rw[e,gp2] at gp1;cases gp1
 have hO6:Own h h6 ([ceI p1 [.pointer (some ⟨bb,0,none⟩)] 113 false,ceI p2 [i64 (r:Nat)] 3 false]++_):=hO5.join hw5 hE5.2.1 hE6 ⟨fun x hx=>by
  rcases List.mem_cons.1 hx with rfl|hx
  ·exact gp1
  ·rw[List.mem_singleton.1 hx];exact gp2,fun x hx c hc=>by
  rcases List.mem_cons.1 hx with rfl|hx
  ·rw[show c=p1 from hc];exact hn1
  ·rw[List.mem_singleton.1 hx] at hc;rw[show c=p2 from hc];exact hn2,List.pairwise_cons.2 ⟨fun y hy c hc hyc=>by
  rw[List.mem_singleton.1 hy] at hyc
  exact hap ((show c=p1 from hc).symm.trans hyc),List.pairwise_singleton _ _⟩⟩
 have hE1:=hE5.trans hE6
 have hC6:=hC5.ext hE6
 clear hO5 hE5 hC5 hE6 gp1 gp2 hn1 hn2 hx1 hx2 hg9 hw5 hap
 clear h5
 refine Wo_wf fun hw6=>?_
 refine zz ?_
 refine Wc_rangeL rfl rfl Bod.h (fun e hs hL hEL hWL hnL hLr hLl=>?_)
 have hOL:=hO6.new (y:=loI (h6.nx+1) _) hw6 hE1.2.1 hEL hLl (fun c (hc:c=_)=>by omega)
 have hCL:Colls h hL (h6.nx::rs):=(hC6.ext hEL).cons hLr hE1.2.1 fun hm=>by have:=hw6 _ _ (hC6.defd _ hm);omega
 have hE1L:=hE1.trans hEL
 let LL:AO->List Pl->Value->List Turn->List It:=fun o G vT T=>[loI (h6.nx+1) o,givI bm G,slI h vT 59 3 (T.flatMap tRow) T.length,ceI c2 [vT] 35 false,slI h (.slice (some ⟨b5,o5,oa5⟩) (keptI t).length (keptI t).length) 3 1 ((keptI t).map i64) (keptI t).length,ceI bb (benchC t am ar cm cr (.map none)) 116 false,ceI c6 [.map (some bm)] 112 false,ceI c5 [.slice (some ⟨b5,o5,oa5⟩) (keptI t).length (keptI t).length] 31 false,ceI h.nx [i64 t.first,i64 t.days,.slice am t.machines.length cm,.slice ar t.reels.length cr] 25 false,ceI c8 [i64 i] 3 false,ceI c9 [i64 (r:Nat)] 3 false,ceI p1 [.pointer (some ⟨bb,0,none⟩)] 113 false,ceI p2 [i64 (r:Nat)] 3 false,slI h v3 61 2 (P.flatMap latRow) P.length,lvI h P]
 generalize hrec:AO.loop LoopState.ready none _ _ _ _ _ _ _=rec at hLl hOL
 have hOL2:Own h hL (LL rec G (.slice aT T.length T.length) T):=hOL.shuf (ceI 0 [] 0 false) [0,1,2,3,4,5,6,7,8,9,10,11,12,13,14] [0,7,5,6,8,9,10,11,12,4,3,1,2,13,14] (by decide) rfl
 let J:List Pl->Heap->Prop:=fun pre h'=>Own h h' (LL rec G (.slice aT T.length T.length) T)/\Ext h h'/\Colls h h' (h6.nx::rs)/\∀q∈pre,okP t G ((keptS t).drop (i+1)) q=false
 let K:Heap->Prop:=fun h'=>∃p vT' fn nt e ps ag bd df,okP t G ((keptS t).drop (i+1)) p=true/\turnP t G r ((keptS t).drop (i+1))=some p/\Own h h' (LL (.loop .done (some (.exit 2)) fn nt e ps ag bd df) (p::G) vT' (T++[⟨(r:Nat),p.1,p.2.1⟩]))/\Ext h h'/\Colls h h' (h6.nx::rs)
 let S:Nat->Prop:=fun b=>b=bm\/b=h6.nx+1
 have hbmL:bm<hL.nx:=by
  obtain⟨o,ho⟩:=(givI bm G).ex (hOL2.at 1 rfl) rfl
  exact hWL _ _ ho
 refine (iter_sv (h0:=h) (l:=h6.nx+1) (am:=am) (ar:=ar) (cm:=cm) (cr:=cr) (mp:=.map none) (bb:=bb) hM hR hf hV hrl J K S (fun b hb=>by rcases hb with e|e <;> omega) ⟨hOL2,hE1L,hCL,(fun _ h=>nomatch h)⟩ (fun pre h' hJ=>⟨hJ.2.1,hJ.1.at 11 rfl,hJ.1.at 12 rfl,hJ.1.at 5 rfl⟩) (fun pre h1 h2 hJ he=>⟨hJ.1.ext he,hJ.2.1.trans he,hJ.2.2.1.ext he,hJ.2.2.2⟩) (fun pre p post h7 hsp hJ=>?_)).ret ?_
 rotate_left
 ·have fin:∀(G':List Pl) (vT':Value) (T':List Turn) (o o':AO) (h':Heap),o≠.defd->Own h h' (LL o G' vT' T')->Ext h h'->Colls h h' (h6.nx::rs)->Own h (h'.set (h6.nx+1) o') [slI h vT' 59 3 (T'.flatMap tRow) T'.length,ceI c2 [vT'] 35 false,givI bm G',slI h (.slice (some ⟨b5,o5,oa5⟩) (keptI t).length (keptI t).length) 3 1 ((keptI t).map i64) (keptI t).length,ceI bb (benchC t am ar cm cr (.map none)) 116 false,ceI c6 [.map (some bm)] 112 false,ceI c5 [.slice (some ⟨b5,o5,oa5⟩) (keptI t).length (keptI t).length] 31 false,ceI h.nx [i64 t.first,i64 t.days,.slice am t.machines.length cm,.slice ar t.reels.length cr] 25 false,slI h v3 61 2 (P.flatMap latRow) P.length,lvI h P]/\Ext h (h'.set (h6.nx+1) o')/\Colls h (h'.set (h6.nx+1) o') (h6.nx::rs):=fun G' vT' T' o o' h' hod hO' hE' hC'=>by
   have hU:=Upd.mk' h' (h6.nx+1) o'
   have hlo:h'.get (h6.nx+1)=some o:=hO'.at 0 rfl
   obtain⟨h1,h2⟩:=Own.loSet hO' hw hE' hU
   have h3:=h1.shuf (ceI 0 [] 0 false) [0,1,2,3,4,5,6,7,8,9,10,11,12,13,14] [2,3,1,4,5,6,7,8,13,14,0,9,10,11,12] (by decide) rfl
   exact⟨h3.sub (.cons_cons _ (.cons_cons _ (.cons_cons _ (.cons_cons _ (.cons_cons _ (.cons_cons _ (.cons_cons _ (.cons_cons _ (.cons_cons _ (.cons_cons _ (List.nil_sublist _))))))))))),h2,hC'.keep fun q hq=>hU.get (fun e=>by rw[e,hlo] at hq;cases hq;exact hod rfl) hq⟩
  rintro v h' (⟨hO',hE',hC',hno⟩|⟨p,vT',fn,nt,e',ps,ag,bd,df,-,htp,hO',hE',hC'⟩)
  ·have hnone:turnP t G r ((keptS t).drop (i+1))=none:=by
    unfold turnP
    exact List.find?_eq_none.2 fun q hq=>by rw[hno q hq];simp
   rw[hnone] at hT
   have hl':h'.get (h6.nx+1)=some rec:=hO'.at 0 rfl
   subst hrec
   have hfin:=fun o'=>fin G _ T _ o' h' (by simp) hO' hE' hC'
   refine⟨.ready,none,24,66,e,_,_,_,_,hl',by simp,fun _=>?_,fun c hc=>nomatch hc⟩
   generalize hAO:AO.loop LoopState.exhausted _ _ _ _ _ _ _ _=bo
   obtain⟨k1,k2,k3⟩:=hfin bo
   generalize h'.set (h6.nx+1) bo=h7 at *
   show Wc _ _ _ _ _ _ _
   refine zz ?_
   exact⟨i+1,(by show (keptI t).length-(i+1)<(keptI t).length-i;omega),h6.nx::rs,rfl,k3,hi',k2,_,T,G,k1,hT,by omega,rfl,rfl,rfl,rfl,rfl,rfl,rfl,rfl,rfl,trivial⟩
  ·rw[htp] at hT
   have hl':=hO'.at 0 rfl
   have hfin:=fun o'=>fin (p::G) vT' _ _ o' h' (by simp) hO' hE' hC'
   refine⟨.done,some (.exit 2),fn,nt,e',ps,ag,bd,df,hl',by simp,(fun hc=>nomatch hc),fun c hc=>?_⟩
   cases hc
   generalize hAO:AO.loop LoopState.exhausted _ _ _ _ _ _ _ _=bo
   obtain⟨k1,k2,k3⟩:=hfin bo
   generalize h'.set (h6.nx+1) bo=h7 at *
   refine zz ?_
   exact⟨i+1,(by show (keptI t).length-(i+1)<(keptI t).length-i;omega),h6.nx::rs,rfl,k3,hi',k2,vT',_,p::G,k1,(by rw[List.append_assoc];exact hT),(by rw[List.length_append];show T.length+1<=i+1;omega),rfl,rfl,rfl,rfl,rfl,rfl,rfl,rfl,rfl,trivial⟩
 obtain⟨hO7,hE7,hC7,hpre⟩:=hJ
 have hl7:h7.get (h6.nx+1)=some rec:=hO7.at 0 rfl
 subst hrec
 refine Yd_intro hl7 hs rfl rfl ?_
 refine Wc_wf fun hw7=>?_
 refine Wc_region ?_
 refine Wo_allocStore rfl rfl Zr.h Tsz.h rfl (fun _=>rfl) rfl rfl rfl fun h8 hE8 hW8 hg10 hx8=>?_
 have hl8:=hE8.get hl7
 refine Wo_nil ⟨rfl,rfl,_,_,_,_,_,_,_,_,hl8,?_⟩
 have hO8:=(hO7.newCe hw7 hE7.2.1 hE8 hg10 (Nat.le_refl _)).up2
 replace hE7:=hE7.trans hE8
 replace hC7:=hC7.ext hE8
 generalize h7.nx=c10 at *
 generalize hAO:AO.loop LoopState.busy _ _ _ _ _ _ _ _=bo
 have hU9:=Upd.mk' h8 (h6.nx+1) bo
 obtain⟨hO9,hE9⟩:=hO8.loSet hw hE7 hU9
 generalize h8.set (h6.nx+1) bo=h9 at *
 have hC9:Colls h h9 (h6.nx::rs):=hC7.keep fun q hq=>hU9.get (fun e=>by rw[e,hl8] at hq;cases hq) hq
 have hX9:Exb S h7 h9:=(Exb.of hE8).upd hU9 (.inr rfl)
 refine Wc_wf fun hw9=>?_
 clear hO8 hU9 hE7 hC7 hO7 hl7 hl8 hW8 hg10 hx8 hE8 hw7
 clear h8
 have finJ:∀h',WF h'->Own h h' (loI (h6.nx+1) bo::ceI c10 [i64 p.1,i64 p.2.1,i64 p.2.2] 121 false::(LL bo G (.slice aT T.length T.length) T).tail)->Ext h h'->Colls h h' (h6.nx::rs)->Exb S h7 h'->okP t G ((keptS t).drop (i+1)) p=false->∀o,h'.get (h6.nx+1)=some bo->bo≠.defd->(Own h (h'.set (h6.nx+1) o) (LL o G (.slice aT T.length T.length) T)/\Ext h (h'.set (h6.nx+1) o)/\Colls h (h'.set (h6.nx+1) o) (h6.nx::rs)/\∀q∈pre++[p],okP t G ((keptS t).drop (i+1)) q=false)/\Exb S h7 (h'.set (h6.nx+1) o):=fun h' hw' hO' hE' hC' hX' hok o hlb hbd=>by
  have hU:=Upd.mk' h' (h6.nx+1) o
  obtain⟨h1,h2⟩:=hO'.loSet hw hE' hU
  refine⟨⟨h1.sub (.cons_cons _ (.cons _ (.refl _))),h2,hC'.keep fun q hq=>hU.get (fun e=>by rw[e,hlb] at hq;cases hq;exact hbd rfl) hq,fun q hq=>?_⟩,hX'.upd hU (.inr rfl)⟩
  rcases List.mem_append.1 hq with g|g
  ·exact hpre q g
  ·rw[List.mem_singleton.1 g];exact hok
 have hbd:bo≠.defd:=fun e=>by rw[<-hAO] at e;cases e
 have hg6:h9.get c6=some (.cells [.map (some bm)] 112 false):=hO9.at 7 rfl
 have hg10:h9.get c10=some (.cells [i64 p.1,i64 p.2.1,i64 p.2.2] 121 false):=hO9.at 1 rfl
 have hl9:h9.get (h6.nx+1)=some bo:=hO9.at 0 rfl
 have hGv:GivenIs h9 bm G:=hO9.at 2 rfl
 refine Wc_block ?_
 refine zz ?_
 obtain⟨lu,hm,hon,hlk⟩:=id hGv
 by_cases hin:p∈G
 ·refine Wo_do rfl rfl rfl rfl (A_lookupV placeK (k:=p) (v:=.bool true) Und.h Zr.h rfl hm rfl (by rw[hlk,if_pos hin];rfl)) ?_
  refine zz ?_
  have hok:okP t G ((keptS t).drop (i+1)) p=false:=by
   rw[Bool.eq_false_iff,Ne,okP_iff]
   exact fun g=>g.1 hin
  have:=fun o=>finJ h9 hw9 hO9 hE9 hC9 hX9 hok o hl9 hbd
  subst hAO
  exact⟨none,.busy,none,24,66,e,_,_,_,_,rfl,hl9,.inl ⟨rfl,this _⟩⟩
 refine Wo_do rfl rfl rfl rfl (A_lookupV placeK (k:=p) (v:=.bool false) Und.h Zr.h rfl hm rfl (by rw[hlk,if_neg hin];rfl)) ?_
 refine zz ?_
 refine Wo_mapUpdateB placeK (k:=p) rfl Und.h rfl hm rfl rfl fun h10 o10 hU10 hm10=>?_
 have hO10:=hO9.up3.put (y:=givI bm (p::G)) hw9 hE9.2.1 (Exb.ofUpd hU10) ⟨_,hm10,hon.set,fun q=>by
  rw[lkp_setK,hlk]
  by_cases e:q=p
  ·rw[if_pos e,if_pos (by rw[e];exact List.mem_cons_self)]
  ·rw[if_neg e]
   congr 1
   simp[e]⟩ fun c hc=>.inl hc
 have hE10:=hO9.up3.grows (Exb.ofUpd hU10) hE9 hw
 have hbml:h6.nx+1≠bm:=fun e=>by rw[e] at hl9;obtain⟨es,cl,h1,_⟩:=hm;rw[h1] at hl9;rw[<-hAO] at hl9;cases hl9
 have hC10:Colls h h10 (h6.nx::rs):=hC9.keep fun q hq=>hU10.get (fun e=>by rw[e] at hq;obtain⟨es,cl,h1,_⟩:=hm;rw[h1] at hq;cases hq) hq
 have hX10:Exb S h7 h10:=hX9.upd hU10 (.inl rfl)
 refine Wo_wf fun hw10=>?_
 have hG10:GivenIs h10 bm (p::G):=hO10.at 0 rfl
 have hF5:FreshSl h h10 (.slice (some ⟨b5,o5,oa5⟩) (keptI t).length (keptI t).length) 3 1 ((keptI t).map i64) (keptI t).length:=hO10.at 5 rfl
 replace hg6:h10.get c6=some (.cells [.map (some bm)] 112 false):=hO10.at 7 rfl
 have hg5:h10.get c5=some (.cells [.slice (some ⟨b5,o5,oa5⟩) (keptI t).length (keptI t).length] 31 false):=hO10.at 8 rfl
 have hg1:h10.get h.nx=some (.cells [i64 t.first,i64 t.days,.slice am t.machines.length cm,.slice ar t.reels.length cr] 25 false):=hO10.at 9 rfl
 have hg8:h10.get c8=some (.cells [i64 i] 3 false):=hO10.at 10 rfl
 clear hg10 hl9 hGv hm hon hlk hw9 hO9 hE9 hC9 hX9 hU10 hm10
 clear h9
 obtain⟨a8,ca8,hz8,hA8⟩:=A_freshDrop (P:=Tryz.prog) (t:=31) (ki:=.i64) (k:=i+1) hF5 (by omega) Und.h Tsz.h (by omega)
 have hir:(keptI t).drop (i+1)=ints ((keptS t).drop (i+1)):=by
  conv=>lhs;rw[<-keptI_ints]
  unfold ints;rw[List.map_drop]
 have hirl:(ints ((keptS t).drop (i+1))).length=(keptI t).length-(i+1):=by rw[<-hir,List.length_drop]
 have hI8:IntsAt h10 a8 (ints ((keptS t).drop (i+1))):=fun j hj=>by
  obtain⟨b,o,oa,e,hc⟩:=hz8 h10 _ hF5 j (by rw[List.length_drop,List.length_map];omega)
  refine⟨b,o,oa,e,?_⟩
  rw[hc]
  congr 1
  simp only[<-hir,List.getElem_drop,List.getElem_map]
 rw[<-hirl] at hA8
 have hfit:=fits_sv (gb:=63) (fb:=[]) (cb:=[.pointer (some ⟨c6,0,none⟩)]) (bar:=barL (p::G)) (cap:=ca8) (ht0.ext hE10) hf hV hI8 (ints_nodup ((keptS_nodup t).sublist (List.drop_sublist _ _))) (fun x hx=>by
  obtain⟨q,hq,rfl⟩:=List.mem_map.1 hx
  have:=keptS_lt (List.mem_of_mem_drop hq);omega) (by omega) Bod.h (fun h3 hE3 q=>given_sv (hE3.get hg6) (hG10.ext hE3))
 rw[show natsL (ints ((keptS t).drop (i+1)))=(keptS t).drop (i+1) from natsL_cast _] at hfit
 clear hI8 hz8 hF5 hG10
 refine zz ?_
 refine Wc_draw hmix [0,0,0,4,14,0,63] [0,1,2,3,4,5] (some 6) [([],none)] (by kernel_rfl) (by kernel_rfl) ?_
 refine z_r ?_;refine z_l ?_;refine z_l ?_;refine z_y ?_;refine Wp_pure rfl rfl rfl rfl rfl (fun _=>hA8 rfl rfl) ?_;refine z_k ?_
 refine Wp_eff [0,1,2,3,4,5] (by kernel_rfl) rfl (Stl_nil rfl) rfl nb rfl (W1_call rfl rfl rfl rfl rfl Bod.h hfit (fun v51 h11 hv=>?_) (fun _ _ hR=>hR.elim))
 obtain⟨b51,rfl,hb51,hE11⟩:=hv
 have hg6b:=hE11.get hg6
 have hg5b:=hE11.get hg5
 have hg1b:=hE11.get hg1
 have hg8b:=hE11.get hg8
 refine Wp_end (Stl_nil rfl) nb' ?_
 replace hO10:=hO10.ext hE11
 replace hC10:=hC10.ext hE11
 replace hX10:Exb S h7 h11:=hX10.trans (Exb.of hE11)
 replace hE10:=hE10.trans hE11
 clear hg6 hg5 hg1 hg8 hfit hA8 hw10 hE11 hg5b hg1b hg8b
 clear h10
 refine Wc_wf fun hw11=>?_
 have hg10:h11.get c10=some (.cells [i64 p.1,i64 p.2.1,i64 p.2.2] 121 false):=hO10.at 2 rfl
 have hl11:h11.get (h6.nx+1)=some bo:=hO10.at 1 rfl
 have hg9:h11.get c9=some (.cells [i64 (r:Nat)] 3 false):=hO10.at 11 rfl
 have hg2:h11.get c2=some (.cells [.slice aT T.length T.length] 35 false):=hO10.at 4 rfl
 cases b51
 ·refine zz ?_
  obtain⟨lu,hm,hon,hlk⟩:GivenIs h11 bm (p::G):=hO10.at 0 rfl
  refine Wo_delete placeK (k:=p) rfl rfl rfl rfl Und.h rfl hm rfl fun h12 o12 hU12 hm12=>?_
  have hO12:=(hO10.put (y:=givI bm G) hw11 hE10.2.1 (Exb.ofUpd hU12) ⟨_,hm12,hon.del,fun q=>by
   rw[lkp_delK _ _ hon,hlk]
   by_cases e:q=p
   ·rw[if_pos e,if_neg (by rw[e];exact hin)]
   ·rw[if_neg e]
    congr 1
    simp[e]⟩ fun c hc=>.inl hc).dn3
  have hE12:=hO10.grows (Exb.ofUpd hU12) hE10 hw
  have hC12:Colls h h12 (h6.nx::rs):=hC10.keep fun q hq=>hU12.get (fun e=>by rw[e] at hq;obtain⟨es,cl,h1,_⟩:=hm;rw[h1] at hq;cases hq) hq
  have hl12:=hU12.get hbml hl11
  refine Wo_wf fun hw12=>?_
  have hok:okP t G ((keptS t).drop (i+1)) p=false:=by
   rw[Bool.eq_false_iff,Ne,okP_iff]
   exact fun g=>nomatch hb51.2 g.2
  have:=fun o=>finJ h12 hw12 hO12 hE12 hC12 (hX10.upd hU12 (.inl rfl)) hok o hl12 hbd
  refine zz ?_
  subst hAO
  exact⟨none,.busy,none,24,66,e,_,_,_,_,rfl,hl12,.inl ⟨rfl,this _⟩⟩
 have hok:okP t G ((keptS t).drop (i+1)) p=true:=okP_iff.2 ⟨hin,hb51.1 rfl⟩
 have hturn:turnP t G r ((keptS t).drop (i+1))=some p:=by
  unfold turnP
  rw[hsp,List.find?_append,List.find?_eq_none.2 fun q hq=>by rw[hpre q hq];simp,List.find?_cons_of_pos hok]
  rfl
 have hFT:FreshSl h h11 (.slice aT T.length T.length) 59 3 (T.flatMap tRow) T.length:=hO10.at 3 rfl
 refine zz ?_
 refine Wo_do rfl rfl rfl rfl (A_build rfl rfl) ?_
 refine Wo_bs rfl rfl Und.h Tsz.h Zr.h rfl rfl rfl rfl rfl fun h12 hE12 hW12 hg12 hx12=>?_
 refine Wo_appendF (h0:=h) (by':=24) (sz:=3) (k:=1) (n:=T.length) (l:=[i64 (r:Nat),i64 p.1,i64 p.2.1]) hw (hE10.trans hE12) rfl rfl rfl rfl rfl Und.h inferInstance rfl rfl (hFT.ext hE12) ((FreshSl.lit (h0:=h) (n:=1) (sz:=3) (cs:=[i64 (r:Nat),i64 p.1,i64 p.2.1]) hg12 rfl hE10.2.1).src (dd:=.slice 59) Und.h (by intro k;simp)) rfl rfl (by omega) (by omega) fun vT2 h13 hF13 hE13 hK13 hx13 hv13=>?_
 obtain⟨aT2,rfl,_,-⟩:=hF13.is
 have hO13:=(hO10.ext hE12).up4.putSl hW12 (hE10.trans hE12) hF13 hE13 hK13 hx13 hv13
 have hC13:Colls h h13 (h6.nx::rs):=(hC10.ext hE12).keep fun q hq=>hK13 q _ (fun e=>by obtain⟨op,h1⟩:=(hFT.ext hE12).got e;rw[h1] at hq;cases hq) hq
 refine Wo_wf fun hw13=>?_
 have hg23:h13.get c2=some (.cells [.slice aT T.length T.length] 35 false):=hO13.at 4 rfl
 refine Wo_store rfl Tsz.h rfl rfl hg23 rfl rfl rfl fun h14 hU14=>?_
 obtain⟨hO14,hE14⟩:=(hO13.shuf (ceI 0 [] 0 false) [0,1,2,3,4,5,6,7,8,9,10,11,12,13,14,15] [4,3,2,1,0,5,6,7,8,9,10,11,12,13,14,15] (by decide) rfl).putCe hw13 hE13 hw hU14
 have hC14:Colls h h14 (h6.nx::rs):=hC13.keep fun q hq=>hU14.get (fun e=>by rw[e,hg23] at hq;cases hq) hq
 have hO15:=(hO14.sub (l':=_::_) (.cons_cons _ (.cons _ (.refl _)))).dn4
 have hl15:h14.get (h6.nx+1)=some bo:=hO15.at 0 rfl
 refine Wo_wf fun hw14=>?_
 have finK:∀o,Own h (h14.set (h6.nx+1) o) (LL o (p::G) (.slice aT2 (T.length+1) (T.length+1)) (T++[⟨(r:Nat),p.1,p.2.1⟩]))/\Ext h (h14.set (h6.nx+1) o)/\Colls h (h14.set (h6.nx+1) o) (h6.nx::rs):=fun o=>by
  have hU:=Upd.mk' h14 (h6.nx+1) o
  obtain⟨h1,h2⟩:=hO15.loSet hw hE14 hU
  refine⟨?_,h2,hC14.keep fun q hq=>hU.get (fun e=>by rw[e,hl15] at hq;cases hq;exact hbd rfl) hq⟩
  have e1:(T++[(⟨(r:Nat),p.1,p.2.1⟩:Turn)]).flatMap tRow=T.flatMap tRow++[i64 (r:Nat),i64 p.1,i64 p.2.1]:=by rw[List.flatMap_append];rfl
  have e2:(T++[(⟨(r:Nat),p.1,p.2.1⟩:Turn)]).length=T.length+1:=by rw[List.length_append];rfl
  show Own h _ [_,_,slI h _ 59 3 ((T++[(⟨(r:Nat),p.1,p.2.1⟩:Turn)]).flatMap tRow) (T++[(⟨(r:Nat),p.1,p.2.1⟩:Turn)]).length,_,_,_,_,_,_,_,_,_,_,_,_]
  rw[e1,e2]
  exact h1
 refine zz ?_
 subst hAO
 obtain⟨k1,k2,k3⟩:=finK _
 exact⟨some (.exit 2),.busy,none,24,66,e,_,_,_,_,rfl,hl15,.inr ⟨rfl,p,_,_,_,_,_,_,_,_,hok,hturn,k1,k2,k3⟩⟩
end Go.Dw
