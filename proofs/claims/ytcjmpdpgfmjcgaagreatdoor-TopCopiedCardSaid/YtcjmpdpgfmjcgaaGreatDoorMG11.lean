/- P2: how many places some reels can use, with no program in sight: Count, and a set of places. -/
import Derived.Test.YtcjmpdpgfmjcgaaGreatDoorMG9
import Derived.Test.YtcjmpdpgfmjcgaaGreatDoorMG10
import Derived.Test.YtcjmpdpgfmjcgaaGreatDoorMG2
namespace Go.Dw
open Go Go.Dx Go.Proofs
theorem mem_placesL {t:Task}{r m d n:Int}:(m,d,n)∈placesL t r ↔ m∈(reelAt t r).machines/\(reelAt t r).ready<=d/\d<=(reelAt t r).due/\0<=n/\n<capT t m d:=by
 unfold placesL dayP machP
 simp only[List.mem_flatMap,List.mem_map,List.mem_range,Prod.mk.injEq]
 constructor
 ·rintro⟨k,hk,m',hm,n',hn,rfl,rfl,rfl⟩
  exact⟨hm,by omega,by omega,by omega,by omega⟩
 ·rintro⟨h1,h2,h3,h4,h5⟩
  refine⟨(d-(reelAt t r).ready).toNat,by omega,m,h1,n.toNat,?_,rfl,by omega,by omega⟩
  rw[show (reelAt t r).ready+((d-(reelAt t r).ready).toNat:Int)=d by omega]
  omega
theorem nodup_flat {α β:Type}{f:α->List β}{key:β->α}:∀{l:List α},l.Nodup->(∀a∈l,(f a).Nodup)->(∀a∈l,∀y∈f a,key y=a)->(l.flatMap f).Nodup
 | [],_,_,_=>by simp
 | a::l,hn,h1,h2=>by
  rw[List.nodup_cons] at hn
  rw[List.flatMap_cons,List.nodup_append]
  refine⟨h1 a List.mem_cons_self,nodup_flat hn.2 (fun b hb=>h1 b (List.mem_cons_of_mem _ hb)) (fun b hb=>h2 b (List.mem_cons_of_mem _ hb)),fun x hx y hy e=>?_⟩
  subst e
  obtain⟨b,hb,hxb⟩:=List.mem_flatMap.1 hy
  have e1:=h2 a List.mem_cons_self x hx
  have e2:=h2 b (List.mem_cons_of_mem _ hb) x hxb
  exact hn.1 (by rw[<-e1,e2];exact hb)
def cellL (t:Task)(l:List Int)(m d:Nat):List Pl:=if (l.any fun k=>canB t k m d)=true then (List.range ((t.machines.getD m noMach).places.getD d 0).toNat).map fun (n:Nat)=>((m:Int),t.first+(d:Int),(n:Int)) else []
def rowL (t:Task)(l:List Int)(m D:Nat):List Pl:=(List.range D).flatMap (cellL t l m)
def cellsL (t:Task)(l:List Int)(M:Nat):List Pl:=(List.range M).flatMap fun m=>rowL t l m t.days.toNat
theorem cellL_len {t:Task}(hV:Valid t){l:List Int}{m d:Nat}(hm:m<t.machines.length)(hd:d<t.days.toNat):((cellL t l m d).length:Int)=cellN t l m d:=by
 obtain⟨_,h2,h3,_⟩:=placeAt hV hm hd
 unfold cellL cellN
 split
 ·simp only[List.length_map,List.length_range]
  rw[h2];omega
 ·rfl
theorem rowL_len {t:Task}(hV:Valid t){l:List Int}{m:Nat}(hm:m<t.machines.length):∀{D:Nat},D<=t.days.toNat->((rowL t l m D).length:Int)=rowN t l m D
 | 0,_=>rfl
 | D+1,hD=>by
  unfold rowL rowN
  rw[List.range_succ,List.flatMap_append]
  have h1:=rowL_len hV (l:=l) hm (D:=D) (by omega)
  have h2:=cellL_len hV (l:=l) hm (d:=D) (by omega)
  unfold rowL at h1
  simp only[List.length_append,List.flatMap_cons,List.flatMap_nil,List.append_nil]
  omega
theorem cellsL_len {t:Task}(hV:Valid t){l:List Int}:∀{M:Nat},M<=t.machines.length->((cellsL t l M).length:Int)=sumN t l M
 | 0,_=>rfl
 | M+1,hM=>by
  unfold cellsL sumN
  rw[List.range_succ,List.flatMap_append]
  have h1:=cellsL_len hV (l:=l) (M:=M) (by omega)
  have h2:=rowL_len hV (l:=l) (m:=M) (by omega) (Nat.le_refl t.days.toNat)
  unfold cellsL at h1
  simp only[List.length_append,List.flatMap_cons,List.flatMap_nil,List.append_nil]
  omega
theorem mem_cellL {t:Task}{l:List Int}{m d:Nat}{p:Pl}:p∈cellL t l m d ↔ (∃k∈l,canB t k m d=true)/\p.1=m/\p.2.1=t.first+d/\0<=p.2.2/\p.2.2<((t.machines.getD m noMach).places.getD d 0):=by
 obtain⟨a,b,c⟩:=p
 unfold cellL
 split
 ·rename_i h
  simp only[List.any_eq_true] at h
  simp only[List.mem_map,List.mem_range,Prod.mk.injEq]
  constructor
  ·rintro⟨n,hn,rfl,rfl,rfl⟩
   exact⟨h,rfl,rfl,by omega,by omega⟩
  ·rintro⟨_,rfl,rfl,h1,h2⟩
   exact⟨c.toNat,by omega,rfl,rfl,by omega⟩
 ·rename_i h
  simp only[List.any_eq_true] at h
  simp only[List.not_mem_nil,false_iff]
  rintro⟨h1,_⟩
  exact h h1
theorem cellL_nodup (t:Task)(l:List Int)(m d:Nat):(cellL t l m d).Nodup:=by
 unfold cellL
 split
 ·refine Go.Mt.map_nodup (fun a _ b _ e=>?_) List.nodup_range
  simp only[Prod.mk.injEq] at e;omega
 ·simp
theorem cellsL_nodup (t:Task)(l:List Int)(M:Nat):(cellsL t l M).Nodup:=by
 refine nodup_flat (key:=fun p=>p.1.toNat) List.nodup_range (fun m _=>?_) (fun m _ p hp=>?_)
 ·refine nodup_flat (key:=fun p=>(p.2.1-t.first).toNat) List.nodup_range (fun d _=>cellL_nodup t l m d) (fun d _ p hp=>?_)
  have:=(mem_cellL.1 hp).2.2.1
  omega
 ·obtain⟨d,_,h⟩:=List.mem_flatMap.1 hp
  have:=(mem_cellL.1 h).2.1
  omega
theorem mem_cellsL {t:Task}(hV:Valid t){l:List Int}(hl:∀k∈l,0<=k/\k<t.reels.length){p:Pl}:p∈cellsL t l t.machines.length ↔ ∃k∈l,p∈placesL t k:=by
 obtain⟨m,d,n⟩:=p
 unfold cellsL rowL
 simp only[List.mem_flatMap,List.mem_range,mem_cellL,mem_placesL]
 constructor
 ·rintro⟨m',hm,d',hd,⟨k,hk,hcan⟩,rfl,rfl,h1,h2⟩
  have hcan:=of_decide_eq_true hcan
  refine⟨k,hk,hcan.1,hcan.2.1,hcan.2.2,h1,?_⟩
  unfold capT
  rw[show ((m':Int)).toNat=m' by omega,show (t.first+(d':Int)-t.first).toNat=d' by omega]
  exact h2
 ·rintro⟨k,hk,h1,h2,h3,h4,h5⟩
  obtain⟨g1,g2⟩:=hl k hk
  have hk':k.toNat<t.reels.length:=by omega
  have e:reelAt t k=t.reels[k.toNat]:=by
   unfold reelAt
   simp[List.getD_eq_getElem?_getD,hk']
  obtain⟨_,q1,_,⟨q2,q3,q4⟩,_⟩:=hV.rs _ (List.getElem_mem hk')
  rw[<-e] at q1 q2 q3 q4
  have:=q1 m h1
  refine⟨m.toNat,by omega,(d-t.first).toNat,by have:=hV.d0;omega,⟨k,hk,?_⟩,by omega,by omega,h4,?_⟩
  ·refine decide_eq_true ?_
   rw[show ((m.toNat:Nat):Int)=m by omega,show t.first+(((d-t.first).toNat:Nat):Int)=d by omega]
   exact⟨h1,h2,h3⟩
  ·unfold capT at h5;exact h5
theorem count_keys {t:Task}(hV:Valid t){l:List Int}(hl:∀k∈l,0<=k/\k<t.reels.length){ks:List Pl}(hn:ks.Nodup)(hk:∀p,p∈ks ↔ ∃k∈l,p∈placesL t k):(ks.length:Int)=countS t l:=by
 have h1:=Go.Mt.nodup_le (m:=cellsL t l t.machines.length) hn (fun p hp=>(mem_cellsL hV hl).2 ((hk p).1 hp))
 have h2:=Go.Mt.nodup_le (m:=ks) (cellsL_nodup t l t.machines.length) (fun p hp=>(hk p).2 ((mem_cellsL hV hl).1 hp))
 have h3:=cellsL_len hV (l:=l) (Nat.le_refl t.machines.length)
 unfold countS
 omega
theorem countS_congr {t:Task}{l l':List Int}(h:∀k,k∈l ↔ k∈l'):countS t l=countS t l':=by
 have hany:∀m d:Int,(l.any fun k=>canB t k m d)=(l'.any fun k=>canB t k m d):=fun m d=>by
  rw[Bool.eq_iff_iff,List.any_eq_true,List.any_eq_true]
  exact⟨fun ⟨k,hk,hc⟩=>⟨k,(h k).1 hk,hc⟩,fun ⟨k,hk,hc⟩=>⟨k,(h k).2 hk,hc⟩⟩
 have h1:∀m d,cellN t l m d=cellN t l' m d:=fun m d=>by unfold cellN;rw[hany]
 have h2:∀m D,rowN t l m D=rowN t l' m D:=fun m D=>by
  induction D with
  | zero=>rfl
  | succ D ih=>simp only[rowN,ih,h1]
 have h3:∀M,sumN t l M=sumN t l' M:=fun M=>by
  induction M with
  | zero=>rfl
  | succ M ih=>simp only[sumN,ih,h2]
 exact h3 _
def lateBad (t:Task)(l:List Turn)(bef:Int)(x:Lat):Bool:=decide (((x.reel<0\/(t.reels.length:Int)-1<x.reel)\/x.reel∈l.map Turn.reel)\/x.reel<=bef)
def lateGo (t:Task)(l:List Turn):Nat->Int->List Lat->Int×Int
 | i,_,[]=>if (i:Int)+l.length≠t.reels.length then (i,142) else (0,0)
 | i,bef,x::xs=>if lateBad t l bef x=true then (i,142) else if holdsB t (l.map Turn.reel) x=false then (i,143) else lateGo t l (i+1) x.reel xs
def acceptS (t:Task)(l:List Turn)(late:List Lat):Int×Int:=if (judgeS t l).2≠0 then (0,(judgeS t l).2) else lateGo t l 0 (-1) late
end Go.Dw
/- P3: the contract of rescue.Accept. -/
namespace Go.Dw
open Go Go.Dx Go.Proofs
set_option maxRecDepth 100000
theorem LatsAt.at {h:Heap}{a:Option Addr}{l:List Lat}(hl:LatsAt h a l){k:Nat}(hk:k<l.length):∃b o oa ab cb,a=some ⟨b,o,oa⟩/\rowAt h b (o+k*2) 2=some [i64 l[k].reel,.slice ab l[k].by'.length cb]/\cellAt h b (o+k*2+0)=some (i64 l[k].reel)/\SrcAt i64 h ab l[k].by':=by
 obtain⟨b,o,oa,e,row,h1,ab,cb,rfl,h2⟩:=hl k hk
 exact⟨b,o,oa,ab,cb,e,h1,cell_of_row h1 rfl,h2⟩
structure AccI (h0 h:Heap)(t:Task)(am ar:Option Addr)(cm cr:Nat)(l:List Turn)(b1 bD bb q:Nat)(rs:List Nat):Prop where
 ext:Ext h0 h
 g1:h.get b1=some (.cells [i64 t.first,i64 t.days,.slice am t.machines.length cm,.slice ar t.reels.length cr] 25 false)
 gD:h.get bD=some (.cells (doneL l) 124 false)
 gb:h.get bb=some (.cells (benchC t am ar cm cr (.map none)) 116 false)
 gq:h.get q=some (.cells [i64 0] 26 false)
 co:Colls h0 h rs
theorem AccI.grow {h0 h h':Heap}{t:Task}{am ar:Option Addr}{cm cr:Nat}{l:List Turn}{b1 bD bb q:Nat}{rs:List Nat}(a:AccI h0 h t am ar cm cr l b1 bD bb q rs)(he:Ext h h'):AccI h0 h' t am ar cm cr l b1 bD bb q rs :=
 ⟨a.ext.trans he,he.get a.g1,he.get a.gD,he.get a.gb,he.get a.gq,a.co.ext he⟩
theorem AccI.ck {h0 h h':Heap}{t:Task}{am ar:Option Addr}{cm cr:Nat}{l:List Turn}{b1 bD bb q:Nat}{rs rs':List Nat}(a:AccI h0 h t am ar cm cr l b1 bD bb q rs)(hk:CK h h')(he:Ext h0 h')(hC:Colls h0 h' rs'):AccI h0 h' t am ar cm cr l b1 bD bb q rs' :=
 ⟨he,hk _ _ _ _ a.g1,hk _ _ _ _ a.gD,hk _ _ _ _ a.gb,hk _ _ _ _ a.gq,hC⟩
end Go.Dw
/- P4: the contract of rescue.Accept, continued. -/
namespace Go.Dw
open Go Go.Dx Go.Proofs
set_option maxRecDepth 100000
def SetIs (t:Task)(h:Heap)(bm:Nat)(ks:List Int)(pre:List Pl):Prop:=∃lu,MapB placeK h bm lu/\Once lu/\∀p,lkp p lu=if (∃k∈ks,p∈placesL t k)\/p∈pre then some (.bool true) else none
theorem SetIs.some' {t:Task}{h h':Heap}{bm:Nat}{ks:List Int}{pre:List Pl}(a:SetIs t h bm ks pre)(he:∀o,h.get bm=some o->h'.get bm=some o):SetIs t h' bm ks pre:=by
 obtain⟨lu,h1,h2,h3⟩:=a;exact⟨lu,MapB.some placeK h1 he,h2,h3⟩
theorem SetIs.ext {t:Task}{h h':Heap}{bm:Nat}{ks:List Int}{pre:List Pl}(a:SetIs t h bm ks pre)(he:Ext h h'):SetIs t h' bm ks pre:=a.some' fun _=>he.get
theorem SetIs.ne {t:Task}{h:Heap}{bm:Nat}{ks:List Int}{pre:List Pl}(a:SetIs t h bm ks pre){c:Nat}{vs:List Value}{el:TypeId}{op:Bool}(hg:h.get c=some (.cells vs el op)):c≠bm:=by
 obtain⟨lu,h1,_⟩:=a;exact mapB_ne h1 hg
theorem SetIs.lt {t:Task}{h:Heap}{bm:Nat}{ks:List Int}{pre:List Pl}(a:SetIs t h bm ks pre)(hw:WF h):bm<h.nx:=by
 obtain⟨lu,h1,_⟩:=a;exact h1.lt placeK hw
theorem SetIs.done {t:Task}{h:Heap}{bm:Nat}{ks:List Int}{k:Int}(a:SetIs t h bm ks (placesL t k)):SetIs t h bm (ks++[k]) []:=by
 obtain⟨lu,h1,h2,h3⟩:=a
 refine⟨lu,h1,h2,fun p=>?_⟩
 rw[h3]
 congr 1
 simp only[List.mem_append,List.mem_singleton,List.not_mem_nil,or_false,eq_iff_iff]
 constructor
 ·rintro (⟨x,hx,hp⟩|hp)
  ·exact⟨x,.inl hx,hp⟩
  ·exact⟨k,.inr rfl,hp⟩
 ·rintro⟨x,hx|hx,hp⟩
  ·exact .inl ⟨x,hx,hp⟩
  ·subst hx;exact .inr hp
theorem SetIs.count {t:Task}(hV:Valid t){h:Heap}{bm:Nat}{ks:List Int}(a:SetIs t h bm ks [])(hks:∀k∈ks,0<=k/\k<t.reels.length):∃lu,MapB placeK h bm lu/\(lu.length:Int)=countS t ks:=by
 obtain⟨lu,h1,h2,h3⟩:=a
 refine⟨lu,h1,?_⟩
 have:=count_keys hV hks (ks:=lu.map Prod.fst) h2 (fun p=>by
  have h4:=h3 p
  simp only[List.not_mem_nil,or_false] at h4
  constructor
  ·intro hm
   refine Classical.byContradiction fun hn=>?_
   rw[if_neg hn,lkp_none_iff] at h4
   exact h4 hm
  ·intro hx
   refine Classical.byContradiction fun hn=>?_
   rw[<-lkp_none_iff] at hn
   rw[if_pos hx,hn] at h4
   cases h4)
 simpa using this
end Go.Dw
/- P5: the contract of Accept of telecineref04. -/
namespace Go.Dw
open Go Go.Dx Go.Proofs
set_option maxRecDepth 100000
end Go.Dw
