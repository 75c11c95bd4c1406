/- E1: contracts: the library's stable sort of records, part 1: insertion, exchanging ranges. -/
import Derived.Test.YthlmgoefjmlndaaGreatDoorTG2
import Derived.Test.YthlmgoefjmlndaaGreatDoorTG13
import Derived.Test.YthlmgoefjmlndaaGreatDoorTG14
import Derived.Test.YthlmgoefjmlndaaGreatDoorTG5
set_option linter.unusedVariables false
set_option linter.unusedSimpArgs false
namespace Go.Dw
open Go Go.Dx Go.Proofs Go.Sort
set_option maxRecDepth 100000
structure ZHZ where
 h0:Heap
 b:Nat
 n:Nat
 cap:Nat
 sp:Option Nat
 op:Bool
 g:FuncId
 fc:List Value
 cc:List Value
 less:WkR->WkR->Bool
 D:WkR->Prop
structure ZHZ.St (k:ZHZ)(d:Array WkR)(h:Heap):Prop where
 ex:Exb (fun c=>c=k.b) k.h0 h
 gt:h.get k.b=some (.cells (d.toList.flatMap rowW) 44 k.op)
 sz:d.size=k.n
 dom:∀i,i<k.n->k.D d[i]!
abbrev ZHZ.v (k:ZHZ):Value:=.slice (some ⟨k.b,0,k.sp⟩) k.n k.cap
abbrev ZHZ.f (k:ZHZ):Value:=.func (.func k.g) ⟨k.fc⟩ ⟨k.cc⟩
section
variable {k:ZHZ}{d:Array WkR}{h h1 h2:Heap}{i j:Nat}
theorem ZHZ.St.row (s:k.St d h)(hi:i<k.n):ZAu h k.b (0+i*6) 6=some (rowW d[i]!):=by
 have hi':i<d.size:=by rw[s.sz];exact hi
 unfold ZAu;rw[s.gt,Nat.zero_add]
 show cut _ _ _=_
 rw[ZBe (f:=rowW) (k:=6) (P:=d.toList) (by simpa using hi') fun _ _=>rfl,getElem!_pos d i hi',Array.getElem_toList]
theorem ZHZ.St.ext (s:k.St d h)(he:Ext h h1):k.St d h1:=⟨s.ex.trans (Exb.of he),he.get s.gt,s.sz,s.dom⟩
end
end Go.Dw
namespace Go.Dw
open Go Go.Dx Go.Proofs Go.Sort
set_option maxRecDepth 100000
section
variable {P:Program}{m:Mem}{h:Heap}{d:Option Tmp}{ty:TypeId}{pos:String}{af:Array Edge}{gu:Option (Nat×Bool)}
end
section
variable {lt less:WkR->WkR->Bool}{d d1 d2:Array WkR}{lo mi hi:Nat}
end
end Go.Dw
namespace Go.Dw
open Go Go.Dx Go.Proofs Go.Sort
set_option maxRecDepth 100000
end Go.Dw
namespace Go.Dw
open Go Go.Dx Go.Proofs
set_option maxRecDepth 100000
abbrev ZMa:=List (Str×Value×List WkR)
noncomputable def ZRb (h0:Heap)(bm b5:Nat)(G:ZMa):List It:=mapI strK bm (kvG G)::ceI b5 [.map (some bm)] 157 false::slG rowW 44 6 h0 G
structure ZHU (G:ZMa)(t:Int)(p:List WkR):Prop where
 raw:∀k,rawG k G=p.filter (plcB t k)
 is:∀k,(ZBn k G).isSome=decide (k∈p.map WkR.a)
 once:Once (kvG G)
theorem ZHU.nil (t:Int):ZHU [] t []:=⟨fun _=>rfl,fun _=>rfl,by simp[Once,kvG]⟩
theorem ZHU.add {G:ZMa}{t:Int}{p:List WkR}(h:ZHU G t p)(x:WkR)(v:Value){l:List WkR}(hl:l=rawG x.a G++if plcB t x.a x=true then [x] else []):ZHU (setG x.a v l G) t (p++[x]) where
 raw:=fun k=>by
  rw[ZGO,ZSv,<-h.raw]
  by_cases e:k=x.a
  ·rw[if_pos e,e,hl]
  ·rw[if_neg e]
   have:plcB t k x=false:=decide_eq_false fun q=>e q.2.1.symm;rw[this];simp
 is:=fun k=>by
  rw[ZDo]
  by_cases e:k=x.a
  ·simp[e]
  ·rw[if_neg e,h.is];simp[e]
 once:=by rw[ZCi];exact h.once.set
theorem ZPo {h0 h:Heap}{bm b5:Nat}{G:ZMa}{I:List It}(hO:Own h0 h (ZRb h0 bm b5 G++I)):Own h0 h ((mapI strK bm (kvG G)::ceI b5 [.map (some bm)] 157 false::I)++slG rowW 44 6 h0 G):=hO.perm (List.Perm.cons _ (List.Perm.cons _ List.perm_append_comm))
theorem ZKC {h0 h:Heap}{bm b5:Nat}{G:ZMa}{I:List It}(hO:Own h0 h ((mapI strK bm (kvG G)::ceI b5 [.map (some bm)] 157 false::I)++slG rowW 44 6 h0 G)):Own h0 h (ZRb h0 bm b5 G++I):=hO.perm (List.Perm.cons _ (List.Perm.cons _ List.perm_append_comm))
def ZWJ (h0 h:Heap)(bm:Nat)(s:List WkR)(t:Int):Prop :=
 ∃G:ZMa,Own h0 h (mapI strK bm (kvG G)::slG rowW 44 6 h0 G)/\Once (kvG G)/\∀k,(ZBn k G).map Prod.snd=if k∈itmW s then some (ZEP s t k) else none
def ZPK (b3 bk c1 c2:Nat)(a:Option Addr)(n cap:Nat)(t:Int):List It:=[ceI c1 [.slice a n cap] 127 false,ceI c2 [.slice (some ⟨bk,0,none⟩) 2 2] 39 false,ceI bk [i64 1,i64 5] 3 false,ceI b3 [i64 t] 3 false]
theorem ZTK (x:WkR){c3:Nat}{d:Int}{op:Bool}{h:Heap}(hg:h.get c3=some (.cells [i64 d] 3 op)):Sv Tryz.prog 122 [encW x,.pointer (some ⟨c3,0,none⟩)] h (RetP fun v h'=>v=.bool (decide (x.day=d))/\Ext h h'):=by
 refine ZAF Tryz.func122 rfl (by rw[Tryz.ntmps122];rfl) ?_;show Wc Tryz.prog ⟨122,8,none⟩ _ _ _ _ _;refine zy ?_;refine ZAg rfl rfl rfl fun h1 hE1 hW1 hg1 hn1=>?_;have k1:=hE1.get hg;refine zy ?_;refine zD (ZAs rfl rfl) ?_;exact ZAB (ZAC rfl ⟨rfl,hE1⟩)
theorem ZMq {a:Option Addr}{cap c3 k:Nat}{d:Int}{op:Bool}{l:List WkR}{h:Heap}(hI:ZAM 6 (fun _ row x=>row=rowW x) h a l)(hg:h.get c3=some (.cells [i64 d] 3 op))(hk:k<l.length)(hkd:l[k].day=d)(hf:∀j (hj:j<k),l[j].day≠d)(hlen:Len l) :
  Sv Tryz.prog 121 [.slice a l.length cap,.func (.func 122) ⟨[]⟩ ⟨[.pointer (some ⟨c3,0,none⟩)]⟩] h (RetP fun v h'=>v=i64 (k:Nat)/\Ext h h'):=by
 refine ZAF Tryz.func121 rfl (by rw[Tryz.ntmps121];rfl) ?_;show Wc Tryz.prog ⟨121,19,none⟩ _ _ _ _ _;refine zy ?_;refine ZAO (fun (j:Nat) m ds h'=>ds=[]/\Ext h h'/\j<=k/\AllK m [(0,.slice a l.length cap),(1,.func (.func 122) ⟨[]⟩ ⟨[.pointer (some ⟨c3,0,none⟩)]⟩),(7,i64 l.length),(8,i64 (j:Nat))]) (fun j=>k-j) 0 ?_ ?_
 ·exact⟨rfl,Ext.refl _,Nat.zero_le _,rfl,rfl,rfl,rfl,trivial⟩
 rintro j m ds h1 ⟨rfl,hE1,hj,hall⟩;refine Wc.le ?_ (Le.kn hall);clear hall;have hj':j<l.length:=by omega
 obtain⟨b,o,oa,rfl,row,hrow0,hx⟩:=hI j hj';have hrow:=hE1.row hrow0;have hx2:row=rowW l[j]:=hx;have hfj:j<k->¬l[j].day=d:=fun q=>hf j q;have hjd:j=k->l[j].day=d:=fun e=>by subst e;exact hkd
 clear hx hrow0;generalize l[j]=x at *;subst hx2;have hg1:=hE1.get hg;refine zy ?_;refine ZAj rfl rfl rfl rfl (A_tt (by omega) (ZAf rfl rfl)) ?_;refine zy ?_;refine zD (A_ix Und.h Tsz.h rfl rfl) ?_;refine zW (ZTK x hg1) fun h2 hE2=>?_
 by_cases hjk:j<k
 ·rw[decide_eq_false (hfj hjk)]
  refine zy ?_;exact⟨j+1,(by show k-(j+1)<k-j;omega),rfl,hE1.trans hE2,hjk,rfl,rfl,rfl,rfl,trivial⟩
 ·have:j=k:=by omega
  rw[decide_eq_true (hjd this)];subst this;refine zy ?_;exact ZAB (ZAC rfl ⟨rfl,hE1.trans hE2⟩)
theorem ZU1 {a:Option Addr}{cap:Nat}{l:List WkR}{h:Heap}(hI:ZAM 6 (fun _ row x=>row=rowW x) h a l)(hlen:Len l) :
  Sv Tryz.prog 76 [.slice a l.length cap] h (RetP fun v h'=>v=str (ZTZ l)/\Ext h h'):=by
 refine ZAF Tryz.func76 rfl (by rw[Tryz.ntmps76];rfl) ?_;show Wc Tryz.prog ⟨76,21,none⟩ _ _ _ _ _;refine ZDF fun hw=>?_;refine zy ?_
 by_cases h0:l.length=0
 ·have:l=[]:=List.eq_nil_of_length_eq_zero h0
  subst this;refine zD (A_tt (show ((([]:List WkR).length:Nat):Int)=0 from rfl) (ZAs rfl rfl)) ?_;exact ZAB (ZAC rfl ⟨rfl,Ext.refl _⟩)
 have hne:l≠[]:=fun e=>h0 (by rw[e];rfl);refine ZAj rfl rfl rfl rfl (A_ff (show ¬((l.length:Nat):Int)=0 by omega) (ZAs rfl rfl)) ?_;have hz:l.length-1<l.length:=by omega
 have hlast:l.getLast?=some l[l.length-1]:=by rw[List.getLast?_eq_getElem?,List.getElem?_eq_getElem hz]
 obtain⟨k,hk,hkd,hf⟩:∃k,∃hk:k<l.length,l[k].day=l[l.length-1].day/\∀j (hj:j<k),l[j].day≠l[l.length-1].day:=by
  have hlt:l.findIdx (fun x=>decide (x.day=l[l.length-1].day))<l.length:=List.findIdx_lt_length_of_exists ⟨l[l.length-1],List.getElem_mem hz,decide_eq_true rfl⟩;refine⟨_,hlt,?_,fun j hj e=>?_⟩
  ·have:=List.findIdx_getElem (w:=hlt)
   exact of_decide_eq_true this
  ·have:=List.not_of_lt_findIdx hj
   rw[e] at this;simp at this
 have hS:ZTZ l=l[k].b:=by
  have hfd:l.find? (fun x=>decide (x.day=l[l.length-1].day))=some l[k]:=by
   rw[List.find?_eq_some_iff_getElem];exact⟨decide_eq_true hkd,k,hk,rfl,fun j hj=>by simpa using hf j hj⟩
  unfold ZTZ;rw[hlast];simp only[hfd]
  rfl
 obtain⟨b,o,oa,rfl,row,hrow,hx⟩:=hI _ hz;have hx2:row=rowW l[l.length-1]:=hx;obtain⟨b',o',oa',e',rowk,hrowk,hxk⟩:=hI k hk;cases e';have hxk2:rowk=rowW l[k]:=hxk;clear hx hxk;have hI':=fun (h2:Heap) (hE:Ext h h2) (c3:Nat) (op:Bool) (hg:h2.get c3=some (.cells [i64 l[l.length-1].day] 3 op))=>ZMq (cap:=cap) (k:=k) (ZAM.ext (fun hr _=>hr) hI hE) hg hk hkd hf hlen;rw[hS];generalize l[l.length-1]=z at *;generalize l[k]=y at *;subst hx2;subst hxk2;have hcz:ZAZ h b (o+(l.length-1)*6+2)=some (i64 z.day):=ZAQ (k:=2) hrow rfl;refine zy ?_;refine ZAj rfl rfl rfl rfl (ZAL (k:=l.length-1) (z:=((l.length:Nat):Int)-1) Und.h Tsz.h rfl rfl (by omega) hz) ?_
 refine zy ?_;refine ZAK rfl rfl Zr.h Tsz.h rfl (fun _=>rfl) rfl rfl rfl fun h2 hE2 hW2 hg2 hn2=>?_;refine zy ?_;refine zW (hI' h2 hE2 _ _ hg2) fun h3 hE3=>?_;have hcy:ZAZ h3 b (o+k*6+5)=some (str y.b):=ZAQ (k:=5) ((hE2.trans hE3).row hrowk) rfl;refine zy ?_;refine zD (A_ix Und.h Tsz.h rfl rfl) ?_;exact ZAB (ZAC rfl ⟨rfl,hE2.trans hE3⟩)
theorem ZVj (l:List WkR):(ZAd (mrgU ltW l)).Pairwise ltW:=(ZHv ZBc l).filter _
theorem ZGL {l:List WkR}{x:WkR}(h:x∈ZAd (mrgU ltW l)):x∈l:=(ZCU ZBc).1 (List.mem_filter.1 h).1
theorem ZJs (l:List WkR):(ZAd (mrgU ltW l)).length<=l.length:=Nat.le_trans (List.length_filter_le _ _) (ZF4 ZBc l)
theorem ZUG {x:WkR}(h:ZA8 x=0):0<=x.day/\x.day<=80000:=by
 unfold ZA8 at h
 split at h
 ·exact absurd h (by decide)
 split at h
 ·exact absurd h (by decide)
 ·omega
def ZKR (l:List WkR)(k:Str)(t:Int):Str×Int :=
 if (chkS l).2≠0 then ([],(chkS l).2) else if k ∉ itmW (ZAd (mrgU ltW l)) then ([],4) else if t<0\/80000<t then ([],7) else (ZT8 (ZAd (mrgU ltW l)) t k,0)
end Go.Dw
