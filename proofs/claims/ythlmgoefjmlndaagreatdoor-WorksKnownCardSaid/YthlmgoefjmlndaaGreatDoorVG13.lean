/- B7: contracts: works.open, Standing. -/
import Derived.Test.YthlmgoefjmlndaaGreatDoorVG2
import Derived.Test.YthlmgoefjmlndaaGreatDoorVG11
import Derived.Test.YthlmgoefjmlndaaGreatDoorVG12
import Derived.Test.YthlmgoefjmlndaaGreatDoorVG5
set_option linter.unusedVariables false
set_option linter.unusedSimpArgs false
namespace Go.Dw
open Go Go.Dx Go.Proofs
set_option maxRecDepth 100000
abbrev encW (x:WkR):Value:=.agg ⟨rowW x⟩
def ZHq:WkR:=⟨[],0,0,0,[],[]⟩
def ZJk (l:List WkR)(v:Value)(h':Heap):Prop :=
 ((chkS l).2≠0/\v=.tuple ⟨[.slice none 0 0,.slice none 0 0,i64 (chkS l).2]⟩) ∨
 ((chkS l).2=0/\∃a af,v=.tuple ⟨[.slice a (ZAZ (mrgU ltW l)).length (ZAZ (mrgU ltW l)).length,.slice af (ZBU (mrgU ltW l)).length (ZBU (mrgU ltW l)).length,i64 0]⟩/\SrcK rowW 6 h' a (ZAZ (mrgU ltW l))/\SrcK rowK 2 h' af (ZBU (mrgU ltW l))/\(a=none->ZAZ (mrgU ltW l)=[])/\(af=none->ZBU (mrgU ltW l)=[]))
theorem ZDV {l:List WkR}(h:(chkS l).2=0):l.length<=200:=by
 unfold chkS at h
 split at h
 ·exact absurd h (by decide)
 ·omega
theorem ZEe:∀{l:List WkR}{i:Nat},(ZGv i l).2=0->∀x∈l,ZBA x=0
 | [],_,_,_,hx=>nomatch hx
 | x::l,i,h,y,hy=>by
  unfold ZGv at h
  split at h
  ·rename_i h1;exact absurd h h1
  ·rename_i h1
   rcases List.mem_cons.1 hy with rfl|hy
   ·exact Classical.byContradiction fun q=>h1 q
   ·exact ZEe h y hy
theorem ZD7 {l:List WkR}(h:(chkS l).2=0):∀x∈l,ZBA x=0:=by
 have hl:=ZDV h;unfold chkS at h;rw[if_neg (by omega)] at h;exact ZEe h
def ZEm (gl:List (Key×Value))(f:Key->Option WkR):Prop:=Once gl/\∀k,lkp k gl=(f k).map encW
theorem ZEm.val {gl:List (Key×Value)}{f:Key->Option WkR}(h:ZEm gl f)(k:Key):(lkp k gl).getD (encW ZHq)=encW ((f k).getD ZHq):=by
 rw[h.2];cases f k <;> rfl
theorem ZEm.is {gl:List (Key×Value)}{f:Key->Option WkR}(h:ZEm gl f)(k:Key):(lkp k gl).isSome=(f k).isSome:=by
 rw[h.2];cases f k <;> rfl
theorem ZEm.del {gl:List (Key×Value)}{f g:Key->Option WkR}(h:ZEm gl f){k:Key}(hg:∀k',g k'=if k'=k then none else f k'):ZEm (delK k gl) g:=by
 refine⟨h.1.del,fun k'=>?_⟩;rw[ZMm _ _ h.1,hg,h.2]
 split <;> rfl
theorem ZEm.set {gl:List (Key×Value)}{f g:Key->Option WkR}(h:ZEm gl f){k:Key}{x:WkR}(hg:∀k',g k'=if k'=k then some x else f k'):ZEm (setK k (encW x) gl) g:=by
 refine⟨h.1.set,fun k'=>?_⟩;rw[ZBt,hg,h.2]
 split <;> rfl
theorem ZMO {p:List WkR}{x:WkR}(h:cntK p x.key≠0)(k:Key):ZCf (p++[x]) k=if k=x.key then none else ZCf p k:=by
 rw[ZIL]
 by_cases hk:k=x.key
 ·rw[if_pos hk,if_pos hk,hk,if_neg h]
 ·rw[if_neg hk,if_neg hk]
theorem ZQt {p:List WkR}{x:WkR}(h:cntK p x.key=0)(k:Key):ZCf (p++[x]) k=if k=x.key then some x else ZCf p k:=by
 rw[ZIL]
 by_cases hk:k=x.key
 ·rw[if_pos hk,if_pos hk,hk,if_pos h]
 ·rw[if_neg hk,if_neg hk]
theorem ZPi (L:List WkR)(k:Key):ZCN L [] k=ZCf L k:=by
 unfold ZCN
 cases ZCf L k with
 | none=>rfl
 | some y=>simp[ZIz,Option.filter_some]
theorem ZP6 {x:WkR}(h:ZBA x=0)(h6:x.kind=6):0<numR x.b:=by
 unfold ZBA at h
 split at h
 ·exact absurd h (by decide)
 split at h
 ·exact absurd h (by decide)
 split at h
 ·exact absurd h (by decide)
 split at h
 ·exact absurd h (by decide)
 ·rename_i hg
  simp only[Bool.not_eq_false,Bool.and_eq_true,ZGP,h6] at hg;exact of_decide_eq_true hg.2
def ZQo (l:List WkR)(v:Value)(h h':Heap):Prop :=
 ((chkS l).2≠0/\v=.tuple ⟨[.slice none 0 0,.slice none 0 0,i64 (chkS l).2]⟩) ∨
 ((chkS l).2=0/\∃vs vf,v=.tuple ⟨[vs,vf,i64 0]⟩/\ZAA h h' vs 44 6 ((ZAZ (mrgU ltW l)).flatMap rowW) (ZAZ (mrgU ltW l)).length/\ZAA h h' vf 51 2 ((ZBU (mrgU ltW l)).flatMap rowK) (ZBU (mrgU ltW l)).length)
theorem ZQo.r {l:List WkR}{v:Value}{h h':Heap}(hO:ZQo l v h h'):ZJk l v h':=by
 rcases hO with ⟨h1,h2⟩|⟨h1,vs,vf,rfl,hs,hf⟩
 ·exact .inl ⟨h1,h2⟩
 ·obtain⟨aS,rfl,hSs,hns⟩:=ZAA.rowsAt (enc:=rowW) (k:=6) (fun _=>rfl) hs rfl
  obtain⟨af,rfl,hSf,hnf⟩:=ZAA.rowsAt (enc:=rowK) (k:=2) (fun _=>rfl) hf rfl;exact .inr ⟨h1,aS,af,rfl,hSs,hSf,hns,hnf⟩
set_option maxHeartbeats 4000000 in
theorem ZMe {a:Option Addr}{cap:Nat}{l:List WkR}{h:Heap}(hR:SrcK rowW 6 h a l)(hn:a=none->l=[]/\cap=0)(hf:∀x∈l,x.Fit)(hlen:Len l)(hL:WkLib h) :
  Sv Tryz.prog 59 [.slice a l.length cap] h (RetP fun v h'=>ZQo l v h h'/\Ext h h'):=by
 refine ZDM fun hw=>?_;have hck:=ZKH (cap:=cap) hR.1 hf hlen hL;unfold ZQo;have hcl:=ZDV (l:=l);have hcg:=ZD7 (l:=l);generalize chkS l=ck at *;refine ZAF Tryz.func59 rfl (by rw[Tryz.ntmps59];rfl) ?_;show Wc Tryz.prog ⟨59,137,none⟩ _ _ _ _ _;refine zy ?_;refine ZAU rfl rfl rfl rfl rfl Bod.h rfl rfl (hck) fun h1 hE1=>?_;refine zy ?_;refine ZAS rfl rfl rfl rfl (ZA6 rfl rfl) (fun hc=>?_) (fun hc=>?_)
 ·refine zy ?_
  exact ZAG (ZAH rfl ⟨.inl ⟨hc,rfl⟩,hE1⟩)
 have hc0:ck.2=0:=Classical.byContradiction fun q=>hc q;have hl2:=hcl hc0;replace hcg:=hcg hc0;refine zy ?_;refine ZAI rfl rfl rfl rfl rfl Bod.h rfl rfl (ZI3 (hR.ext hE1) hn (by omega)) ?_;rintro _ h3 ⟨hE3,a3,c3,rfl,hS3⟩;have hE13:=hE1.trans hE3;have hll:(mrgU ltW l).length<=200:=Nat.le_trans (ZGX ZAx l) hl2;have hLf:∀x∈mrgU ltW l,x.Fit/\ZBA x=0:=fun x hx=>⟨hf x ((ZBq ZAx).1 hx),hcg x ((ZBq ZAx).1 hx)⟩;have hwl:=hL.ext hE13;clear hck hcl hcg hf;generalize mrgU ltW l=L at *;refine ZBJ fun hw3=>?_;refine zy ?_;refine ZDO rfl rfl fun h4 hE4 hW4 hg4 hn4=>?_;have hO4:=((Own.nil h3 h3).newMap (K:=keyK) hw3 (Nat.le_refl _) hE4 hg4 (Nat.le_refl _)).nilSl 51 2
 replace hO4:=hO4.up2;generalize h3.nx=bm at hO4 hg4 ⊢;refine zy ?_;refine ZAP (fun (s:Nat×Value×List (Key×Value)) m ds h'=>ds=[]/\s.1<=L.length/\Ext h3 h'/\Own h3 h' [mapI keyK bm s.2.2,slI h3 s.2.1 51 2 ((ZBU (L.take s.1)).flatMap rowK) (ZBU (L.take s.1)).length]/\ZEm s.2.2 (ZCf (L.take s.1))/\AllK m [(0,.slice a3 L.length c3),(2,.slice none 0 0),(3,s.2.1),(5,.map (some bm)),(33,.slice a3 L.length c3),(34,i64 L.length),(35,i64 (s.1:Nat))]) (fun s=>L.length-s.1) (0,.slice none 0 0,[]) ?_ ?_
 ·exact⟨rfl,Nat.zero_le _,hE4,hO4,⟨by simp[Once],fun k=>rfl⟩,rfl,rfl,rfl,rfl,rfl,rfl,rfl,trivial⟩
 clear hO4 hg4 hE4 hW4 hn4;rintro⟨s,vf,gl⟩ m ds h4 ⟨rfl,hs,hE4,hO4,hgm,hall⟩;refine Wc.le ?_ (Le.kn hall);clear hall;simp only at hs hO4 hgm ⊢;refine ZHT fun hw4=>?_;refine zy ?_;refine ZAS rfl rfl rfl rfl (ZAc rfl rfl) (fun hsl=>?_) (fun hsl=>?_)
 ·have hs':s<L.length:=by omega
  obtain⟨b,o,oa,rfl,row,hrow0,hx⟩:=hS3.1 s hs';have hx2:row=rowW L[s]:=hx;clear hx;have htk:L.take (s+1)=L.take s++[L[s]]:=by rw[List.take_add_one,List.getElem?_eq_getElem hs'];rfl
  have hfl:(ZBU (L.take s)).length<=200:=Nat.le_trans (ZPO _) (by rw[List.length_take];omega);generalize L[s]=x at *;subst hx2;generalize L.take s=p at *;have hrow:=hE4.row hrow0;have hfs:=ZFe p x;have hfm:=ZOG (l:=p) (k:=x.key);refine zy ?_;refine ZAC rfl rfl rfl rfl (A_ix Und.h Tsz.h rfl rfl) ?_;refine zy ?_;refine ZAL rfl rfl Zr.h Tsz.h rfl (fun _=>rfl) rfl rfl rfl fun h5 hE5 hW5 hg5 hn5=>?_;refine zy ?_;refine ZAU rfl rfl rfl rfl rfl Bod.h rfl rfl (ZIH x _) fun h6 hE6=>?_;have k6:=hE6.get hg5;refine zy ?_;refine ZAL rfl rfl Zr.h Tsz.h rfl (fun _=>rfl) rfl rfl rfl fun h7 hE7 hW7 hg7 hn7=>?_
  have k7:=hE7.get k6;have hE57:=(hE5.trans hE6).trans hE7;have hbm:bm<h6.nx:=by
   have q1:=MapB.lt keyK hO4.p1 hw4;have q2:=(hE5.trans hE6).2.1;omega
  have hO7:=hO4.ext hE57;have hV:=hgm.val x.key;have hQ:=hgm.is x.key;generalize hy:(ZCf p x.key).getD ZHq=y at hV;rw[ZKA] at hQ;refine zy ?_
  by_cases hc1:cntK p x.key=1
  ·rw[decide_eq_true hc1] at hQ
   have hfin:x.key ∉ ZBU p:=fun q=>by have:=hfm.1 q;omega
   rw[if_pos hc1] at hfs;refine ZAC rfl rfl rfl rfl (ZAX keyK (k:=x.key) (v:=encW y) (q:=true) Und.h Zr.h rfl hO7.p1 rfl hV hQ) ?_;refine zy ?_;refine ZAL rfl rfl Zr.h Tsz.h rfl (fun _=>rfl) rfl rfl rfl fun h8 hE8 hW8 hg8 hn8=>?_;have k8:=hE8.get k7;have j8:=hE8.get hg7;have hO8:=hO7.ext hE8;have hE38:=(hE4.trans hE57).trans hE8;refine zy ?_;refine ZFl keyK (k:=x.key) hw3 hE38 rfl rfl rfl rfl Und.h rfl hO8 rfl fun h9 hW9 hO9 hE9 hX9=>?_;have hgm9:ZEm (delK x.key gl) (ZCf (p++[x])):=hgm.del (ZMO (by omega));obtain⟨af,eaf,hSf,hnf⟩:=ZAA.rowsAt (enc:=rowK) (k:=2) (fun _=>rfl) hO9.p2 rfl;have k9:h9.get h6.nx=some (.cells (rowK x.key) 51 false):=hX9.get (show ¬h6.nx=bm by omega) j8
   subst eaf;refine zy ?_;refine ZAU rfl rfl rfl rfl rfl Bod.h rfl rfl (ZCc (k:=x.key) hSf.1 (by show _<_;omega)) fun h10 hE10=>?_;rw[decide_eq_false hfin];have k10:=hE10.get k9;refine zy ?_;have hO10:=(hO9.ext hE10).up2;have hE310:=hE9.trans hE10;refine ZA3 rfl rfl Und.h Tsz.h Zr.h rfl rfl rfl rfl rfl fun h11 hE11 hW11 hg11 hn11=>?_;refine zy ?_;refine ZBI (k:=1) (l:=rowK x.key) hw3 (hE310.trans hE11) rfl rfl rfl rfl rfl Und.h inferInstance rfl rfl (hO10.ext hE11) (ZBE Und.h (by intro k;simp) (ZAT hg11 rfl)) rfl rfl (by omega) (by omega) fun v12 h12 hW12 hO12 hE12=>?_;refine zy ?_;refine⟨(s+1,v12,delK x.key gl),(by show L.length-(s+1)<L.length-s;omega),rfl,hs',hE12,?_,?_,rfl,rfl,rfl,rfl,rfl,rfl,rfl,trivial⟩
   ·simp only[htk,hfs,List.flatMap_append,List.flatMap_singleton,List.length_append,List.length_singleton]
    exact hO12.up2
   ·simp only[htk];exact hgm9
  rw[decide_eq_false hc1] at hQ;rw[if_neg hc1] at hfs;refine ZAC rfl rfl rfl rfl (ZAX keyK (k:=x.key) (v:=encW y) (q:=false) Und.h Zr.h rfl hO7.p1 rfl hV hQ) ?_;refine zy ?_;refine ZAL rfl rfl Zr.h Tsz.h rfl (fun _=>rfl) rfl rfl rfl fun h8 hE8 hW8 hg8 hn8=>?_;have k8:=hE8.get k7;have j8:=hE8.get hg7;have hO8:=hO7.ext hE8;have hE38:=(hE4.trans hE57).trans hE8;obtain⟨af,eaf,hSf,hnf⟩:=ZAA.rowsAt (enc:=rowK) (k:=2) (fun _=>rfl) hO8.p2 rfl;subst eaf;refine zy ?_;refine ZAU rfl rfl rfl rfl rfl Bod.h rfl rfl (ZCc (k:=x.key) hSf.1 (by show _<_;omega)) fun h9 hE9=>?_;have k9:=hE9.get k8;have j9:=hE9.get j8
  have hO9:=hO8.ext hE9;have hE39:=hE38.trans hE9;have hb9:bm<h9.nx:=by have:=(hE7.trans (hE8.trans hE9)).2.1;omega
  by_cases hc0:cntK p x.key=0
  ·rw[decide_eq_false (fun q=>by have:=hfm.1 q;omega)]
   refine zy ?_;refine ZAk keyK (k:=x.key) (v:=encW x) hw3 hE39 rfl Und.h rfl hO9 rfl rfl fun h10 hW10 hO10 hE10=>?_;refine zy ?_;refine⟨(s+1,_,setK x.key (encW x) gl),(by show L.length-(s+1)<L.length-s;omega),rfl,hs',hE10,?_,?_,rfl,rfl,rfl,rfl,rfl,rfl,rfl,trivial⟩
   ·simp only[htk,hfs]
    exact hO10
   ·simp only[htk];exact hgm.set (ZQt hc0)
  have hfin:x.key∈ZBU p:=hfm.2 (by omega);rw[decide_eq_true hfin];refine zy ?_;refine ZFl keyK (k:=x.key) hw3 hE39 rfl rfl rfl rfl Und.h rfl hO9 rfl fun h10 hW10 hO10 hE10 hX10=>?_;have hgm9:ZEm (delK x.key gl) (ZCf (p++[x])):=hgm.del (ZMO (by omega));have k10:h10.get h6.nx=some (.cells (rowK x.key) 51 false):=hX10.get (show ¬h6.nx=bm by omega) j9;obtain⟨ag,eag,hSg,hng⟩:=ZAA.rowsAt (enc:=rowK) (k:=2) (fun _=>rfl) hO10.p2 rfl;cases eag;refine zy ?_;refine ZAU rfl rfl rfl rfl rfl Bod.h rfl rfl (ZCc (k:=x.key) hSg.1 (by show _<_;omega)) fun h11 hE11=>?_;rw[decide_eq_true hfin];refine zy ?_;refine⟨(s+1,_,delK x.key gl),(by show L.length-(s+1)<L.length-s;omega),rfl,hs',hE10.trans hE11,?_,?_,rfl,rfl,rfl,rfl,rfl,rfl,rfl,trivial⟩
  ·simp only[htk,hfs]
   exact hO10.ext hE11
  ·simp only[htk];exact hgm9
 have hs2:s=L.length:=by omega
 subst hs2;rw[List.take_length] at hO4 hgm;refine zy ?_;refine ZAP (fun (s:Nat×List (Key×Value)) m ds h'=>ds=[]/\s.1<=L.length/\Ext h3 h'/\Own h3 h' [mapI keyK bm s.2,slI h3 vf 51 2 ((ZBU L).flatMap rowK) (ZBU L).length]/\ZEm s.2 (ZCN L (L.take s.1))/\AllK m [(0,.slice a3 L.length c3),(2,.slice none 0 0),(3,vf),(5,.map (some bm)),(67,.slice a3 L.length c3),(68,i64 L.length),(69,i64 (s.1:Nat))]) (fun s=>L.length-s.1) (0,gl) ?_ ?_
 ·refine⟨rfl,Nat.zero_le _,hE4,hO4,⟨hgm.1,fun k=>?_⟩,rfl,rfl,rfl,rfl,rfl,rfl,rfl,trivial⟩
  rw[hgm.2]
  show _=(ZCN L [] k).map encW
  rw[ZPi]
 clear hO4 hgm hE4 hw4;rintro⟨s,gl⟩ m ds h4 ⟨rfl,hs,hE4,hO4,hgm,hall⟩;refine Wc.le ?_ (Le.kn hall);clear hall;simp only at hs hO4 hgm ⊢;refine ZHT fun hw4=>?_;refine zy ?_;refine ZAS rfl rfl rfl rfl (ZAc rfl rfl) (fun hsl=>?_) (fun hsl=>?_)
 ·have hs':s<L.length:=by omega
  obtain⟨b,o,oa,rfl,row,hrow0,hx⟩:=hS3.1 s hs';have hx2:row=rowW L[s]:=hx;clear hx;have htk:L.take (s+1)=L.take s++[L[s]]:=by rw[List.take_add_one,List.getElem?_eq_getElem hs'];rfl
  have hxm:=List.getElem_mem hs';generalize L[s]=x at *;subst hx2;generalize L.take s=p at *;have hrow:=hE4.row hrow0;obtain⟨hxf,hxe⟩:=hLf x hxm;refine zy ?_;refine ZAC rfl rfl rfl rfl (A_ix Und.h Tsz.h rfl rfl) ?_;refine zy ?_;refine ZAL rfl rfl Zr.h Tsz.h rfl (fun _=>rfl) rfl rfl rfl fun h5 hE5 hW5 hg5 hn5=>?_;refine zy ?_;refine ZAU rfl rfl rfl rfl rfl Bod.h rfl rfl (ZIH x _) fun h6 hE6=>?_;have k6:=hE6.get hg5;have hE56:=hE5.trans hE6;have hO6:=hO4.ext hE56;have hV:=hgm.val x.key;have hQ:=hgm.is x.key;have hE36:=hE4.trans hE56
  by_cases hD:ZGz L x=true
  ·obtain⟨d1,d2,d3⟩:=of_decide_eq_true hD
   have hN:=ZP6 hxe d1;have hlx:=ZNZ (p:=p) hxm d1 d2;rw[hlx] at hV hQ;have hst:=ZNO (p:=p) hD;refine zy ?_;refine ZAC rfl rfl rfl rfl (ZAX keyK (k:=x.key) (v:=encW x) (q:=true) Und.h Zr.h rfl hO6.p1 rfl hV hQ) ?_;refine zy ?_;refine ZAL rfl rfl Zr.h Tsz.h rfl (fun _=>rfl) rfl rfl rfl fun h8 hE8 hW8 hg8 hn8=>?_;have hO8:=hO6.ext hE8;refine zy ?_;refine ZAC rfl rfl rfl rfl (A_tt d1 (ZBr rfl rfl)) ?_;refine zy ?_;refine ZAC rfl rfl rfl rfl (A_tt d3 (ZAy rfl rfl)) ?_;refine zy ?_;refine ZAI rfl rfl rfl rfl rfl Bod.h rfl rfl (ZNs hxf.b ((hwl.ext hE36).ext hE8)) ?_;rintro v9 h9 ⟨hE9,⟨n,hn9,rfl⟩|⟨hno,-⟩⟩
   rotate_left
   ·obtain⟨n,hn9,-⟩:=(ZLS _).1 hN
    exact absurd hn9 (hno n)
   have hnum:=ZRT hN hn9;have k9:=hE9.get hg8;have hO9:=hO8.ext hE9;refine zy ?_;refine ZAL rfl rfl Zr.h Tsz.h rfl (fun _=>rfl) rfl rfl rfl fun h10 hE10 hW10 hg10 hn10=>?_;have hO10:=hO9.ext hE10;have hE310:=((hE36.trans hE8).trans hE9).trans hE10;have hV2:=hgm.val (tgtK x);generalize hz:(ZCN L p (tgtK x)).getD ZHq=z at hV2;have hkk:(Value.agg ⟨[str x.a,i64 n]⟩)=keyK.enc (tgtK x):=by rw[hnum];rfl
   refine zy ?_;refine ZAC rfl rfl rfl rfl (ZA7 keyK (k:=tgtK x) (v:=encW z) Und.h Zr.h rfl hO10.p1 (by rw[<-hkk];rfl) hV2) ?_;refine zy ?_;refine ZAC rfl rfl rfl rfl (ZPK rfl rfl) ?_
   by_cases hz6:z.kind≠6
   ·refine ZAC rfl rfl rfl rfl (A_tt hz6 (ZA6 rfl rfl)) ?_
    refine zy ?_;refine ZFl keyK (k:=tgtK x) hw3 hE310 rfl rfl rfl rfl Und.h rfl hO10 (by rw[<-hkk];rfl) fun h11 hW11 hO11 hE11 hX11=>?_;refine zy ?_;refine⟨(s+1,delK (tgtK x) gl),(by show L.length-(s+1)<L.length-s;omega),rfl,hs',hE11,hO11,?_,rfl,rfl,rfl,rfl,rfl,rfl,rfl,trivial⟩;simp only[htk];refine hgm.del fun k'=>?_;rw[hst]
    by_cases hk:k'=tgtK x
    ·have hall:∀y,ZCN L p k'=some y->y.kind≠6:=fun y hy=>by
      rw[hk] at hy;rw[hy] at hz;rw[show y=z from hz];exact hz6
     rw[if_pos hk,if_pos ⟨hk,hall⟩]
    ·rw[if_neg hk,if_neg fun q=>hk q.1]
   ·refine ZAC rfl rfl rfl rfl (A_ff hz6 (ZA6 rfl rfl)) ?_
    refine zy ?_;refine⟨(s+1,gl),(by show L.length-(s+1)<L.length-s;omega),rfl,hs',hE310,hO10,?_,rfl,rfl,rfl,rfl,rfl,rfl,rfl,trivial⟩;simp only[htk];refine⟨hgm.1,fun k'=>?_⟩;rw[hgm.2,hst,if_neg];rintro⟨hk,hall⟩;rw[hk] at hall
    cases hlz:ZCN L p (tgtK x) with
    | none =>
     rw[hlz] at hz;rw[<-show ZHq=z from hz] at hz6;exact hz6 (by decide)
    | some y =>
     rw[hlz] at hz;rw[<-show y=z from hz] at hz6;exact hz6 (hall y hlz)
  have hDf:ZGz L x=false:=by simpa using hD
  have hst:=ZNV (p:=p) hDf;have hfin:ZEm gl (ZCN L (p++[x])):=⟨hgm.1,fun k'=>by rw[hst];exact hgm.2 k'⟩
  cases hlx:ZCN L p x.key with
  | none =>
   rw[hlx] at hV hQ;refine zy ?_;refine ZAC rfl rfl rfl rfl (ZAX keyK (k:=x.key) (v:=encW ZHq) (q:=false) Und.h Zr.h rfl hO6.p1 rfl hV hQ) ?_;refine zy ?_;refine ZAL rfl rfl Zr.h Tsz.h rfl (fun _=>rfl) rfl rfl rfl fun h8 hE8 hW8 hg8 hn8=>?_;refine zy ?_;refine⟨(s+1,gl),(by show L.length-(s+1)<L.length-s;omega),rfl,hs',hE36.trans hE8,hO6.ext hE8,?_,rfl,rfl,rfl,rfl,rfl,rfl,rfl,trivial⟩;simp only[htk];exact hfin
  | some y =>
   obtain⟨rfl,hc1⟩:=ZQL hxm hlx;rw[hlx] at hV hQ;refine zy ?_;refine ZAC rfl rfl rfl rfl (ZAX keyK (k:=y.key) (v:=encW y) (q:=true) Und.h Zr.h rfl hO6.p1 rfl hV hQ) ?_;refine zy ?_;refine ZAL rfl rfl Zr.h Tsz.h rfl (fun _=>rfl) rfl rfl rfl fun h8 hE8 hW8 hg8 hn8=>?_;refine zy ?_
   by_cases h6:y.kind=6
   ·have ha:¬y.a=y.archive:=fun q=>hD (decide_eq_true ⟨h6,hc1,q⟩)
    refine ZAC rfl rfl rfl rfl (A_tt h6 (ZBr rfl rfl)) ?_;refine zy ?_;refine ZAC rfl rfl rfl rfl (A_ff ha (ZAy rfl rfl)) ?_;refine zy ?_;refine⟨(s+1,gl),(by show L.length-(s+1)<L.length-s;omega),rfl,hs',hE36.trans hE8,hO6.ext hE8,?_,rfl,rfl,rfl,rfl,rfl,rfl,rfl,trivial⟩;simp only[htk];exact hfin
   ·refine ZAC rfl rfl rfl rfl (A_ff h6 (ZBr rfl rfl)) ?_
    refine zy ?_;refine⟨(s+1,gl),(by show L.length-(s+1)<L.length-s;omega),rfl,hs',hE36.trans hE8,hO6.ext hE8,?_,rfl,rfl,rfl,rfl,rfl,rfl,rfl,trivial⟩;simp only[htk];exact hfin
 have hs2:s=L.length:=by omega
 subst hs2;rw[List.take_length] at hgm;replace hO4:=hO4.nilSl 44 6;refine zy ?_;refine ZAP (fun (s:Nat×Value) m ds h'=>ds=[]/\s.1<=L.length/\Ext h3 h'/\Own h3 h' [slI h3 s.2 44 6 (((L.take s.1).filter (ZEQ L)).flatMap rowW) ((L.take s.1).filter (ZEQ L)).length,mapI keyK bm gl,slI h3 vf 51 2 ((ZBU L).flatMap rowK) (ZBU L).length]/\AllK m [(0,.slice a3 L.length c3),(2,s.2),(3,vf),(5,.map (some bm)),(111,.slice a3 L.length c3),(112,i64 L.length),(113,i64 (s.1:Nat))]) (fun s=>L.length-s.1) (0,.slice none 0 0) ?_ ?_
 ·exact⟨rfl,Nat.zero_le _,hE4,hO4,rfl,rfl,rfl,rfl,rfl,rfl,rfl,trivial⟩
 clear hO4 hE4 hw4;rintro⟨s,vs⟩ m ds h4 ⟨rfl,hs,hE4,hO4,hall⟩;refine Wc.le ?_ (Le.kn hall);clear hall;simp only at hs hO4 ⊢;refine ZHT fun hw4=>?_;refine zy ?_;refine ZAS rfl rfl rfl rfl (ZAc rfl rfl) (fun hsl=>?_) (fun hsl=>?_);rotate_left
 ·have hs2:s=L.length:=by omega
  subst hs2;rw[List.take_length] at hO4;obtain⟨aS,eas,hSs,hns⟩:=ZAA.rowsAt (enc:=rowW) (k:=6) (fun _=>rfl) hO4.p1 rfl;obtain⟨af,eaf,hSf,hnf⟩:=ZAA.rowsAt (enc:=rowK) (k:=2) (fun _=>rfl) hO4.p3 rfl;have hFs:=ZAA.base (h0:=h) hO4.p1 hE13.2.1;have hFf:=ZAA.base (h0:=h) hO4.p3 hE13.2.1;subst eas;subst eaf;refine zy ?_;exact ZAG (ZAH rfl ⟨.inr ⟨hc0,_,_,rfl,hFs,hFf⟩,hE13.trans hE4⟩)
 have hs':s<L.length:=by omega
 obtain⟨b,o,oa,rfl,row,hrow0,hx⟩:=hS3.1 s hs';have hx2:row=rowW L[s]:=hx;clear hx;have htk:L.take (s+1)=L.take s++[L[s]]:=by rw[List.take_add_one,List.getElem?_eq_getElem hs'];rfl
 have hxm:=List.getElem_mem hs';have hpl:((L.take s).filter (ZEQ L)).length<=200:=Nat.le_trans (List.length_filter_le _ _) (by rw[List.length_take];omega);generalize L[s]=x at *;subst hx2;generalize L.take s=p at *;have hrow:=hE4.row hrow0;have hsb:=ZK6 hxm;have hfi:(p++[x]).filter (ZEQ L)=p.filter (ZEQ L)++if ZEQ L x=true then [x] else []:=by
  rw[List.filter_append]
  congr 1
  by_cases q:ZEQ L x=true <;> simp[q]
 refine zy ?_;refine ZAC rfl rfl rfl rfl (A_ix Und.h Tsz.h rfl rfl) ?_;refine zy ?_;refine ZAL rfl rfl Zr.h Tsz.h rfl (fun _=>rfl) rfl rfl rfl fun h5 hE5 hW5 hg5 hn5=>?_;refine zy ?_;refine ZAU rfl rfl rfl rfl rfl Bod.h rfl rfl (ZIH x _) fun h6 hE6=>?_;have k6:=hE6.get hg5;have hE56:=hE5.trans hE6;have hO6:=hO4.ext hE56;have hV:=hgm.val x.key;have hQ:=hgm.is x.key;have hE36:=hE4.trans hE56;generalize hy:(ZCN L L x.key).getD ZHq=y at hV
 cases hq:(ZCN L L x.key).isSome with
 | false =>
  rw[hq] at hQ hsb;rw[hsb] at hfi;simp only[Bool.false_and,Bool.false_eq_true,if_false,List.append_nil] at hfi;refine zy ?_;refine ZAC rfl rfl rfl rfl (ZAX keyK (k:=x.key) (v:=encW y) (q:=false) Und.h Zr.h rfl hO6.p2 rfl hV hQ) ?_;refine zy ?_;refine ZAL rfl rfl Zr.h Tsz.h rfl (fun _=>rfl) rfl rfl rfl fun h8 hE8 hW8 hg8 hn8=>?_;refine zy ?_;refine⟨(s+1,vs),(by show L.length-(s+1)<L.length-s;omega),rfl,hs',hE36.trans hE8,?_,rfl,rfl,rfl,rfl,rfl,rfl,rfl,trivial⟩;simp only[htk,hfi];exact hO6.ext hE8
 | true =>
  rw[hq] at hQ hsb;refine zy ?_;refine ZAC rfl rfl rfl rfl (ZAX keyK (k:=x.key) (v:=encW y) (q:=true) Und.h Zr.h rfl hO6.p2 rfl hV hQ) ?_;refine zy ?_;refine ZAL rfl rfl Zr.h Tsz.h rfl (fun _=>rfl) rfl rfl rfl fun h8 hE8 hW8 hg8 hn8=>?_;have k8:=hE8.get k6;refine zy ?_
  by_cases h6:x.kind≠6
  rotate_left
  ·refine ZAC rfl rfl rfl rfl (A_ff h6 (ZA6 rfl rfl)) ?_
   rw[hsb] at hfi;simp only[h6,decide_false,Bool.and_false,Bool.false_eq_true,if_false,List.append_nil] at hfi;refine zy ?_;refine⟨(s+1,vs),(by show L.length-(s+1)<L.length-s;omega),rfl,hs',hE36.trans hE8,?_,rfl,rfl,rfl,rfl,rfl,rfl,rfl,trivial⟩;simp only[htk,hfi];exact hO6.ext hE8
  refine ZAC rfl rfl rfl rfl (A_tt h6 (ZA6 rfl rfl)) ?_;rw[hsb,decide_eq_true h6] at hfi;simp only[Bool.and_self,if_true] at hfi;have hO8:=hO6.ext hE8;have hE38:=hE36.trans hE8;refine zy ?_;refine ZA3 rfl rfl Und.h Tsz.h Zr.h rfl rfl rfl rfl rfl fun h11 hE11 hW11 hg11 hn11=>?_;refine zy ?_;refine ZBI (k:=1) (l:=rowW x) hw3 (hE38.trans hE11) rfl rfl rfl rfl rfl Und.h inferInstance rfl rfl (hO8.ext hE11) (ZBE Und.h (by intro k;simp) (ZAT hg11 rfl)) rfl rfl (by omega) (by omega) fun v12 h12 hW12 hO12 hE12=>?_;refine zy ?_;refine⟨(s+1,v12),(by show L.length-(s+1)<L.length-s;omega),rfl,hs',hE12,?_,rfl,rfl,rfl,rfl,rfl,rfl,rfl,trivial⟩
  simp only[htk,hfi,List.flatMap_append,List.flatMap_singleton,List.length_append,List.length_singleton];exact hO12
theorem ZFt {a:Option Addr}{cap:Nat}{l:List WkR}{h:Heap}(hR:SrcK rowW 6 h a l)(hn:a=none->l=[]/\cap=0)(hf:∀x∈l,x.Fit)(hlen:Len l)(hL:WkLib h) :
  Sv Tryz.prog 59 [.slice a l.length cap] h (RetP fun v h'=>ZJk l v h'/\Ext h h') :=
 (ZMe hR hn hf hlen hL).mono fun r hr=>by
  cases r with
  | ret v h'=>exact⟨hr.1.r,hr.2⟩
  | pan v h'=>exact hr
  | no=>exact hr
theorem ZHE {a:Option Addr}{cap:Nat}{l:List WkR}{h:Heap}(hR:SrcK rowW 6 h a l)(hn:a=none->l=[]/\cap=0)(hf:∀x∈l,x.Fit)(hlen:Len l)(hL:WkLib h) :
  Sv Tryz.prog 22 [.slice a l.length cap] h (RetP fun v h'=>ZJk l v h'/\Ext h h'):=by
 refine ZAF Tryz.func22 rfl (by rw[Tryz.ntmps22];rfl) ?_;show Wc Tryz.prog ⟨22,10,none⟩ _ _ _ _ _;refine zy ?_;refine ZAI rfl rfl rfl rfl rfl Bod.h rfl rfl (ZFt hR hn hf hlen hL) ?_;rintro v h1 ⟨hO,hE⟩;have hO':=hO
 rcases hO with ⟨hc,rfl⟩|⟨hc,aS,af,rfl,h2⟩
 ·refine zy ?_
  exact ZAG (ZAH rfl ⟨hO',hE⟩)
 ·refine zy ?_
  exact ZAG (ZAH rfl ⟨hO',hE⟩)
theorem ZLc {a ak:Option Addr}{n cap nk ck:Nat}{h:Heap}:Sv Tryz.prog 63 [.slice a n cap,.slice ak nk ck] h (RetP fun v h'=>∃c1 c2,v=.func (.func 110) ⟨[]⟩ ⟨[.pointer (some ⟨c1,0,none⟩),.pointer (some ⟨c2,0,none⟩)]⟩/\Ext h h'/\Own h h' [ceI c1 [.slice a n cap] 127 false,ceI c2 [.slice ak nk ck] 39 false]):=by
 refine ZDM fun hw=>?_;refine ZAF Tryz.func63 rfl (by rw[Tryz.ntmps63];rfl) ?_;show Wc Tryz.prog ⟨63,6,none⟩ _ _ _ _ _;refine zy ?_;refine ZBp rfl rfl rfl fun h1 hE1 hW1 hg1 hn1=>?_;refine zy ?_;refine ZBp rfl rfl rfl fun h2 hE2 hW2 hg2 hn2=>?_;have hO:=(((Own.nil h h).newCe hw (Nat.le_refl _) hE1 hg1 (Nat.le_refl _)).newCe hW1 hE1.2.1 hE2 hg2 (Nat.le_refl _)).up2;refine zy ?_;exact ZAG (ZAH rfl ⟨_,_,rfl,hE1.trans hE2,hO⟩)
set_option maxHeartbeats 1000000 in
theorem ZLq {σ:Type}{X:σ->List It}{h0:Heap}{c1 c2 bk cap:Nat}{a:Option Addr}{sp:Option Nat}{op:Bool}{s:List WkR}{ks:List Int}(hR:SrcK rowW 6 h0 a s)(hls:Len s)(hlk:Len ks)
  (hX:∀st,ceI c1 [.slice a s.length cap] 127 false∈X st/\ceI c2 [.slice (some ⟨bk,0,sp⟩) ks.length ks.length] 39 false∈X st/\ceI bk (ks.map i64) 3 op∈X st) :
  ZMS Tryz.prog 110 [.pointer (some ⟨c1,0,none⟩),.pointer (some ⟨c2,0,none⟩)] h0 X (ofK ks s) encW:=by
 intro l hL J hJ0 hJd hJe hy
 have hgot:∀{pre h'},J pre h'->Ext h0 h'/\h'.get c1=some (.cells [.slice a s.length cap] 127 false)/\h'.get c2=some (.cells [.slice (some ⟨bk,0,sp⟩) ks.length ks.length] 39 false)/\h'.get bk=some (.cells (ks.map i64) 3 op):=fun {pre h'} hJ=>by
  obtain⟨hE,st,R,hO⟩:=hJd pre h' hJ;obtain⟨x1,x2,x3⟩:=hX st;exact⟨hE,hO.has _ (List.mem_append_left _ x1),hO.has _ (List.mem_append_left _ x2),hO.has _ (List.mem_append_left _ x3)⟩
 obtain⟨hE0,hg1,hg2,hg3⟩:=hgot hJ0;refine ZAF Tryz.func110 rfl (by rw[Tryz.ntmps110];rfl) ?_;show Wc Tryz.prog ⟨110,23,none⟩ _ _ _ _ _;refine zy ?_;refine ZAP (fun (i:Nat) m ds h'=>ds=[]/\i<=s.length/\J (ofK ks (s.take i)) h'/\AllK m [(0,.func (.yield l) ⟨[]⟩ ⟨[]⟩),(1,.pointer (some ⟨c1,0,none⟩)),(2,.pointer (some ⟨c2,0,none⟩)),(6,.slice a s.length cap),(7,i64 s.length),(8,i64 (i:Nat))]) (fun i=>s.length-i) 0 ?_ ?_
 ·exact⟨rfl,Nat.zero_le _,hJ0,rfl,rfl,rfl,rfl,rfl,rfl,trivial⟩
 clear hE0 hg1 hg2 hg3 hJ0;rintro i m ds h1 ⟨rfl,hi,hJ1,hall⟩;refine Wc.le ?_ (Le.kn hall);clear hall;refine zy ?_;refine ZAS rfl rfl rfl rfl (ZAc rfl rfl) (fun hil=>?_) (fun hil=>?_);rotate_left
 ·have:i=s.length:=by omega
  subst this;rw[List.take_length] at hJ1;refine zy ?_;exact ZAs rfl hJ1
 have hi':i<s.length:=by omega
 obtain⟨hE1,hg1,hg2,hg3⟩:=hgot hJ1;obtain⟨b,o,oa,rfl,row,hrow0,hx⟩:=hR.1 i hi';have hrow:=hE1.row hrow0;have hx2:row=rowW s[i]:=hx;have htk:s.take (i+1)=s.take i++[s[i]]:=by rw[List.take_add_one,List.getElem?_eq_getElem hi'];rfl
 have hsp:s[i].kind∈ks->ofK ks s=ofK ks (s.take i)++s[i]::ofK ks (s.drop (i+1)):=fun hk=>by
  have:s=s.take i++(s[i]::s.drop (i+1)):=by rw[<-List.drop_eq_getElem_cons hi',List.take_append_drop]
  conv=>lhs;rw[this]
  unfold ofK;rw[List.filter_append,List.filter_cons,if_pos (decide_eq_true hk)]
 clear hx hrow0;have hof:ofK ks (s.take i++[s[i]])=ofK ks (s.take i)++if s[i].kind∈ks then [s[i]] else []:=by
  unfold ofK;rw[List.filter_append]
  congr 1
  by_cases q:s[i].kind∈ks <;> simp[q]
 have hint:ZAr i64 h1 (some ⟨bk,0,sp⟩) ks:=fun j hj=>⟨bk,0,sp,rfl,by
  rw[Nat.zero_add];exact ZAY hg3 (by rw[ZAj,Nat.mul_one,List.getElem?_map,List.getElem?_eq_getElem hj];rfl)⟩
 generalize s[i]=x at *;subst hx2;refine zy ?_;refine ZAC rfl rfl rfl rfl (A_ix Und.h Tsz.h rfl rfl) ?_;refine zy ?_;refine ZAL rfl rfl Zr.h Tsz.h rfl (fun _=>rfl) rfl rfl rfl fun h2 hE2 hW2 hg22 hn2=>?_;have k2:=hE2.get hg2;have hJ2:=hJe _ _ _ hJ1 hE2;have hin2:ZAr i64 h2 (some ⟨bk,0,sp⟩) ks:=hint.ext hE2;refine zy ?_;refine ZAR rfl rfl rfl rfl rfl Bod.h rfl rfl (ZD2 (k:=x.kind) hin2 hlk) ?_
 by_cases hk:x.kind∈ks
 ·rw[if_pos hk] at hof
  rw[decide_eq_true hk];refine zy ?_;refine ZMl rfl rfl rfl rfl rfl rfl rfl (hy _ x _ h2 (hsp hk) hJ2) ?_;rintro _ h3 ⟨rfl,hJ3⟩;refine zy ?_;exact⟨i+1,(by show s.length-(i+1)<s.length-i;omega),rfl,hi',(by rw[htk,hof];exact hJ3),rfl,rfl,rfl,rfl,rfl,rfl,trivial⟩
 ·rw[if_neg hk,List.append_nil] at hof
  rw[decide_eq_false hk];refine zy ?_;exact⟨i+1,(by show s.length-(i+1)<s.length-i;omega),rfl,hi',(by rw[htk,hof];exact hJ2),rfl,rfl,rfl,rfl,rfl,rfl,trivial⟩
abbrev WebG:=List (Str×Value×List Str)
noncomputable def webX (h0:Heap)(bm b3:Nat)(G:WebG):List It:=mapI strK bm (kvG G)::ceI b3 [.map (some bm)] 133 false::slG encT 9 1 h0 G
set_option maxHeartbeats 4000000 in
theorem ZRQ {h0 h:Heap}{bm b3:Nat}{G:WebG}{I:List It}{a b:Str}(hw0:WF h0)(hE:Ext h0 h)(hO:Own h0 h (webX h0 bm b3 G++I))(ha:(rawG a G).length<=10000)(hb:(rawG b G).length<=10000) :
  Sv Tryz.prog 108 [str a,str b,.pointer (some ⟨b3,0,none⟩)] h (RetP fun _ h'=>∃va vb,Own h0 h' (webX h0 bm b3 (setG b vb (rawG b (setG a va (rawG a G++[b]) G)++[a]) (setG a va (rawG a G++[b]) G))++I)/\Ext h0 h'):=by
 have hsw:∀(h:Heap) (G:WebG),Own h0 h (webX h0 bm b3 G++I)->Own h0 h ((mapI strK bm (kvG G)::ceI b3 [.map (some bm)] 133 false::I)++slG encT 9 1 h0 G):=fun h G hO=>hO.perm (List.Perm.cons _ (List.Perm.cons _ List.perm_append_comm));have hsw2:∀(h:Heap) (G:WebG),Own h0 h ((mapI strK bm (kvG G)::ceI b3 [.map (some bm)] 133 false::I)++slG encT 9 1 h0 G)->Own h0 h (webX h0 bm b3 G++I):=fun h G hO=>hO.perm (List.Perm.cons _ (List.Perm.cons _ List.perm_append_comm));refine ZAF Tryz.func108 rfl (by rw[Tryz.ntmps108];rfl) ?_;show Wc Tryz.prog ⟨108,21,none⟩ _ _ _ _ _;refine ZHT fun hw=>?_;obtain⟨R,ht1,ht2⟩:=ZFJ encT 9 1 h0 a G
 have hmap:MapB strK h bm (kvG G):=hO.p1;have hg3:h.get b3=some (.cells [.map (some bm)] 133 false):=hO.p2;have hO1:=ht1 _ _ (hsw _ _ hO);generalize hv:(lkp a (kvG G)).getD (.slice none 0 0)=v0 at hO1;generalize hr:rawG a G=r0 at *;have hEa:Ext h (Heap.add h (.cells [str b] 9 false)):=Ext.add hw _;have hn:=hE.2.1;have hF1:ZAA h0 (Heap.add h (.cells [str b] 9 false)) (.slice (some ⟨h.nx,0,none⟩) 1 1) 9 1 [str b] 1:=ZAA.lit Heap.get_add_same rfl hn;have hlen1:(r0++[b]).flatMap encT=r0.flatMap encT++[str b]:=by rw[List.flatMap_append];rfl
 have hga:=hEa.get hg3;refine zy ?_;refine ZAQ hmix [0,0,0,0,12,0,32,124,255] [0,1,2,3,4,5,6] (some 7) [([],(some 8)),([],none)] (by kernel_rfl) (by kernel_rfl) ?_;refine z_l ?_;refine z_m ?_;refine z_l ?_;refine z_m ?_;refine ZAE rfl rfl rfl rfl rfl (fun _=>ZA7 strK (k:=a) (v:=v0) Und.h Zr.h rfl hmap rfl hv) ?_;refine z_m ?_;refine ZF9 (nk:=.sl _ _) rfl rfl rfl rfl rfl (fun _ _ hs=>N_bs hs Und.h Tsz.h Zr.h rfl rfl rfl rfl rfl) ?_;refine ZAM (h1:=(Heap.add h _)) [2,3,4,5,6] (by kernel_rfl) rfl (ZAB rfl) rfl rfl (dF (dF (dF (dF (dF (kF (kF nF))))))) (ZCE (ZC5 (by':=16) (sz:=1) (k:=1) (n:=r0.length) (l:=[str b]) rfl hw0 (hE.trans hEa) rfl rfl rfl rfl Und.h inferInstance rfl rfl (hO1.ext hEa) (hF1.src (dd:=.slice 9) Und.h (by intro k;simp)) rfl rfl (by omega) (by omega) (fun v2 h2 hO2 hE2 hw2=>?_)))
 have hO3:=ht2 h2 _ v2 (r0++[b]) (by rw[hlen1,List.length_append];exact hO2);have hg32:h2.get b3=some (.cells [.map (some bm)] 133 false):=hO3.p2;refine ZAM (h1:=h2) [0,1,2,3,4,5,6,7] (by kernel_rfl) rfl (by refine t_m 1 ?_;refine t_l 0 ?_;exact ZAB rfl) rfl rfl (dF (dF nF)) (ZCE (ZCP strK (k:=a) (v:=v2) rfl hw0 hE2 rfl Und.h rfl hO3 rfl rfl (fun h3 hO4 hE3 hw3=>?_)));refine ZAV (ZAB rfl) rfl ?_;rw[<-ZCM a v2 (r0++[b])] at hO4;have hb1:(rawG b (setG a v2 (r0++[b]) G)).length<=10001:=by
  rw[ZFW]
  split
  ·rw[List.length_append];show r0.length+1<=10001;omega
  ·omega
 generalize hG1:setG a v2 (r0++[b]) G=G1 at *;clear ht1 ht2 hO1 hmap hg3 hO hF1 hv hlen1 hga hEa hn hO2 hO3;obtain⟨R,ht1,ht2⟩:=ZFJ encT 9 1 h0 b G1;have hmap:MapB strK h3 bm (kvG G1):=hO4.p1;have hg3:h3.get b3=some (.cells [.map (some bm)] 133 false):=hO4.p2;have hO1:=ht1 _ (mapI strK bm (kvG G1)::ceI b3 [.map (some bm)] 133 false::I) hO4;generalize hv:(lkp b (kvG G1)).getD (.slice none 0 0)=v1 at hO1;generalize hr1:rawG b G1=r1 at *;have hEa:Ext h3 (Heap.add h3 (.cells [str a] 9 false)):=Ext.add hw3 _;have hn:=hE3.2.1;have hF1:ZAA h0 (Heap.add h3 (.cells [str a] 9 false)) (.slice (some ⟨h3.nx,0,none⟩) 1 1) 9 1 [str a] 1:=ZAA.lit Heap.get_add_same rfl hn
 have hlen1:(r1++[a]).flatMap encT=r1.flatMap encT++[str a]:=by rw[List.flatMap_append];rfl
 have hga:=hEa.get hg3;refine zy ?_;refine ZAQ hmix [0,0,0,0,12,0,32,124,255] [0,1,2,3,4,5,6] (some 7) [([],(some 8)),([],none)] (by kernel_rfl) (by kernel_rfl) ?_;refine z_l ?_;refine z_m ?_;refine z_l ?_;refine z_m ?_;refine ZAE rfl rfl rfl rfl rfl (fun _=>ZA7 strK (k:=b) (v:=v1) Und.h Zr.h rfl hmap rfl hv) ?_;refine z_m ?_;refine ZF9 (nk:=.sl _ _) rfl rfl rfl rfl rfl (fun _ _ hs=>N_bs hs Und.h Tsz.h Zr.h rfl rfl rfl rfl rfl) ?_;refine ZAM (h1:=(Heap.add h3 _)) [2,3,4,5,6] (by kernel_rfl) rfl (ZAB rfl) rfl rfl (dF (dF (dF (dF (dF (kF (kF nF))))))) (ZCE (ZC5 (by':=16) (sz:=1) (k:=1) (n:=r1.length) (l:=[str a]) rfl hw0 (hE3.trans hEa) rfl rfl rfl rfl Und.h inferInstance rfl rfl (hO1.ext hEa) (hF1.src (dd:=.slice 9) Und.h (by intro k;simp)) rfl rfl (by omega) (by omega) (fun v4 h4 hO2 hE4 hw4=>?_)))
 have hO3:=ht2 h4 _ v4 (r1++[a]) (by rw[hlen1,List.length_append];exact hO2);have hg34:h4.get b3=some (.cells [.map (some bm)] 133 false):=hO3.p2;refine ZAM (h1:=h4) [0,1,2,3,4,5,6,7] (by kernel_rfl) rfl (by refine t_m 1 ?_;refine t_l 0 ?_;exact ZAB rfl) rfl rfl (dF (dF nF)) (ZCE (ZCP strK (k:=b) (v:=v4) rfl hw0 hE4 rfl Und.h rfl hO3 rfl rfl (fun h5 hO5 hE5 hw5=>?_)));refine ZAV (ZAB rfl) rfl ?_;rw[<-ZCM b v4 (r1++[a])] at hO5;refine zy ?_;exact ZAs rfl ⟨v2,v4,hsw2 _ _ (by rw[hG1,hr1];exact hO5),hE5⟩
end Go.Dw
