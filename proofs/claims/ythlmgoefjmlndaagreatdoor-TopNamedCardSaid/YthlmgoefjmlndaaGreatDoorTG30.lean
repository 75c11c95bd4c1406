/- Q3: TopNamed: its contract, for any task, show and records. -/
import Derived.Test.YthlmgoefjmlndaaGreatDoorTG2
import Derived.Test.YthlmgoefjmlndaaGreatDoorTG28
import Derived.Test.YthlmgoefjmlndaaGreatDoorTG29
import Derived.Test.YthlmgoefjmlndaaGreatDoorTG8
set_option linter.unusedVariables false
set_option linter.unusedSimpArgs false
namespace Go.Dw
open Go Go.Dx Go.Proofs
set_option maxRecDepth 100000
abbrev xQ31:List Nat:=[0,1,0,0,0,16,0,112,240,496,1016,2047,4095,8191]
abbrev xQ34:List Nat:=[0,1,2,3,4,5,6,7,8,9,10,11,12]
abbrev xQ36:List Nat:=[0,1,2,3,4,5,6,7,8,9]
abbrev xQ39:List Nat:=[3,4,5,6,7,8,9]
theorem ZVf {t:ScT}{s:ScS}(h:(mayV t s).2=0):ZEV t=0/\ZAY t s=0/\(mayV t s).1=whyS t s:=by
 unfold mayV at h ⊢
 split at h
 ·rename_i h1
  split at h
  ·rename_i h2
   rw[if_pos h1,if_pos h2];exact⟨h1,h2,rfl⟩
  ·rename_i h2;exact absurd h h2
 ·rename_i h1;exact absurd h h1
theorem ZTr {t:ScT}{s:ScS}(h:(mayV t s).2≠0):(mayV t s).1=0:=by
 unfold mayV at h ⊢
 split
 ·split
  ·rename_i h1 h2
   rw[if_pos h1,if_pos h2] at h;exact absurd rfl h
  ·rfl
 ·rfl
theorem ZQb {x:Str}(h:ZBI x=true):x.length<=24:=by
 unfold ZBI at h;simp only[Bool.and_eq_true,decide_eq_true_eq] at h;omega
theorem ZVl {c:Str->Str}{t:ScT}(hT:t.Fit)(he:ZEV t=0)(hc:∀x,ZBI x=true->ZBI (c x)=true):(t.nm c).Fit:=by
 have hO:=ZSy he
 have hL:∀x,ZBI x=true->Len (c x):=fun x hx=>by
  have:=ZQb (hc x hx)
  show _<_
  omega
 refine⟨hT.first,hT.lands,hT.landsL,hT.travel,hT.travelL,hT.venues,hT.venuesF,?_,fun r hr=>?_,?_,fun p hp=>?_,?_,fun p hp=>?_,hT.keys,hT.keysF,hT.loans,hT.loansF⟩
 ·show (t.rights.map _).length<_
  rw[List.length_map];exact hT.rights
 ·obtain⟨q,hq,rfl⟩:=List.mem_map.1 hr
  have hf:=hT.rightsF q hq;have h1:=hO.rights q hq;unfold ZBJ at h1
  split at h1
  ·cases h1
  rename_i h2;have h3:ZBI q.work=true:=by
   cases hz:ZBI q.work
   ·exact absurd (.inl hz) h2
   ·rfl
  exact⟨hL _ h3,hf.version,hf.land,hf.days⟩
 ·show (t.prints.map _).length<_
  rw[List.length_map];exact hT.prints
 ·obtain⟨q,hq,rfl⟩:=List.mem_map.1 hp
  have hf:=hT.printsF q hq;have h1:=hO.prints q hq;unfold ZAv at h1
  split at h1
  ·cases h1
  rename_i h2;have h3:ZBI q.work=true:=by
   cases hz:ZBI q.work
   ·exact absurd (.inl hz) h2
   ·rfl
  exact⟨hf.name,hL _ h3,hf.version,hf.reels,hf.reelsI,hf.speeds,hf.land⟩
 ·show (t.packs.map _).length<_
  rw[List.length_map];exact hT.packs
 ·obtain⟨q,hq,rfl⟩:=List.mem_map.1 hp
  have hf:=hT.packsF q hq;have h1:=hO.packs q hq;unfold ZBU at h1
  split at h1
  ·cases h1
  rename_i h2;have h3:ZBI q.work=true:=by
   cases hz:ZBI q.work
   ·exact absurd (.inl hz) h2
   ·rfl
  exact⟨hf.name,hL _ h3,hf.version,hf.frames,hf.speed⟩
def fndB (l:List WkR)(a b:Str):Bool:=decide ((ZHA l a b).2=0) && decide (1<(ZHA l a b).1.length)
theorem ZMA {α:Type}{f:α->α}{l:List α}{k:Nat}(hk:k<=l.length):((l.take k).map f++l.drop k).length=l.length:=by
 rw[List.length_append,List.length_map,List.length_take,List.length_drop];omega
theorem ZM5 {α:Type}{f:α->α}{l:List α}{k:Nat}(hk:k<l.length){h':k<((l.take k).map f++l.drop k).length}:((l.take k).map f++l.drop k)[k]=l[k]:=by
 have e:((l.take k).map f).length=k:=by rw[List.length_map,List.length_take];omega
 rw[List.getElem_append_right (by omega),List.getElem_drop]
 congr 1
 omega
theorem ZL1 {α:Type}{f:α->α}{l:List α}{k:Nat}(hk:k<l.length):((l.take k).map f++l.drop k).set k (f l[k])=(l.take (k+1)).map f++l.drop (k+1):=by
 have e:((l.take k).map f).length=k:=by rw[List.length_map,List.length_take];omega
 rw[List.set_append_right _ _ (by omega),e,Nat.sub_self,List.drop_eq_getElem_cons hk,List.set_cons_zero,List.take_succ_eq_append_getElem hk,List.map_append,List.append_assoc]
 rfl
theorem ZVB {y:It}{I:List It}{Rs:Nat->Prop}(h1:∀c,y.S c->¬Rs c)(h2:∀x∈I,∀c,x.S c->¬Rs c):∀x∈y::I,∀c,x.S c->¬Rs c:=fun x hx c hc=>by
 rcases List.mem_cons.1 hx with rfl|hx
 ·exact h1 c hc
 ·exact h2 x hx c hc
theorem ZRs (h:Heap)(row:List Value)(x:ScR)(e:ScRR h row x):row.length=5:=by rw[show row=_ from e];rfl
theorem ZSH (h:Heap)(row:List Value)(x:ScP)(e:ScPR h row x):row.length=7:=by obtain⟨a,c,rfl,-⟩:=e;rfl
theorem ZS1 (h:Heap)(row:List Value)(x:ScPk)(e:ZDC h row x):row.length=5:=by rw[show row=_ from e];rfl
theorem ZSb (h:Heap)(row:List Value)(x:ScR)(e:ScRR h row x):allOne row=true:=by rw[show row=_ from e];rfl
theorem ZSR (h:Heap)(row:List Value)(x:ScP)(e:ScPR h row x):allOne row=true:=by obtain⟨a,c,rfl,-⟩:=e;rfl
theorem ZSd (h:Heap)(row:List Value)(x:ScPk)(e:ZDC h row x):allOne row=true:=by rw[show row=_ from e];rfl
set_option maxHeartbeats 8000000 in
theorem ZMU {tc sr:List Value}{t:ScT}{s:ScS}{l:List WkR}{ad:Option Addr}{cap:Nat}{h:Heap}(ht:ZDk h tc t)(hT:t.Fit)(hs:s.Fit)(hr:ScSR h sr s)(hEm:∀i a c,4<=i->i<=6->tc[i]?=some (.slice a 0 c)->EmpA h a)(hR:SrcK rowW 6 h ad l)(hn:ad=none->l=[]/\cap=0)(hf:∀x∈l,x.Fit)(hlen:Len l)(hL:WkLib h) :
  Sv Tryz.prog 17 [.agg ⟨tc⟩,.agg ⟨sr⟩,.slice ad l.length cap] h (RetP fun v h'=>v=.bool true/\Ext h h'):=by
 have ht0:=ht;obtain⟨a1,c1,at',ct,av,cv,a2,c2,a3,c3,a4,c4,a5,c5,a6,c6,rfl,m1,m2,m3,m4,m5,m6,m7,m8⟩:=ht;obtain rfl:=hr;have e2:t.rights=[]->EmpA h a2:=fun e=>hEm 4 a2 c2 (by decide) (by decide) (by rw[e];rfl);have e3:t.prints=[]->EmpA h a3:=fun e=>hEm 5 a3 c3 (by decide) (by decide) (by rw[e];rfl);have e4:t.packs=[]->EmpA h a4:=fun e=>hEm 6 a4 c4 (by decide) (by decide) (by rw[e];rfl);clear hEm;refine ZA5 fun hw=>?_;refine ZAF Tryz.func17 rfl (by rw[Tryz.ntmps17];rfl) ?_;show Wc Tryz.prog ⟨17,230,none⟩ _ _ _ _ _;refine zy ?_;refine ZAg rfl rfl rfl fun h1 hE1 hW1 hg1 hn1=>?_;refine ZAg rfl rfl rfl fun h2 hE2 hW2 hg2 hn2=>?_
 replace hg1:=hE2.get hg1;have hE:=hE1.trans hE2;generalize h.nx=b1 at *;generalize h1.nx=b2 at *;clear hE1 hE2 hW1 hn1 hn2 hW2;refine zy ?_;refine zR (ZN4 (hR.ext hE) hn hf hlen (hL.ext hE)) ?_;rintro _ h3 ⟨hWk,hE3⟩;replace hg1:=hE3.get hg1;replace hg2:=hE3.get hg2;replace hE:=hE.trans hE3;clear hE3;clear h2
 rcases hWk with ⟨hc,rfl⟩|⟨hc,va,rfl,aW,cW,rfl,hWR⟩
 ·generalize (chkS l).2=e at *
  refine zy ?_;refine zW (ZJR (ht0.ext hE) hT hs rfl) fun h4 hE4=>?_;have hno:=ZTr (t:=t) (s:=s);generalize (mayV t s).1=r at *;generalize (mayV t s).2=f at *;refine zy ?_;refine zD (A_tt hc (ZAo rfl rfl)) ?_;refine zD (A_ff hc (ZAs rfl rfl)) ?_;refine zD (A_tt rfl (ZAs rfl rfl)) ?_
  by_cases hf0:f=0
  ·refine zD (A_tt hf0 (ZAs rfl rfl)) ?_
   refine zW (ZDO (hL.ext (hE.trans hE4))) fun h6 hE6=>?_;refine zy ?_;exact ZAB (ZAC rfl ⟨rfl,(hE.trans hE4).trans hE6⟩)
  ·refine zD (A_ff hf0 (ZAs rfl rfl)) ?_
   refine zD (A_tt (hno hf0) (ZAs rfl rfl)) ?_;refine zW (ZDO (hL.ext (hE.trans hE4))) fun h6 hE6=>?_;refine zy ?_;exact ZAB (ZAC rfl ⟨rfl,(hE.trans hE4).trans hE6⟩)
 have hll:=ZGI hc;have hsg:∀x∈ZAd (mrgU ltW l),ZA8 x=0:=fun x hx=>ZFW hc x (ZGL hx);have hcp:=fun (a b:Str)=>ZQ6 (l:=l) (a:=a) (b:=b) hc hsg;have hcn:=fun (x:Str)=>ZPN hsg (x:=x);have hSl:(ZAd (mrgU ltW l)).length<=200:=Nat.le_trans (ZJs l) hll;obtain⟨hWl,hWn⟩:=ZVx (s:=ZAd (mrgU ltW l));have hnd:=ZL9 (ZAd (mrgU ltW l))
 have hWN:∀w∈ZBM (ZAd (mrgU ltW l)),Len w.1:=fun w hw=>by
  have:=(hWn w hw).1
  show _<_
  omega
 have hWL:Len (ZBM (ZAd (mrgU ltW l))):=by
  show _<_
  omega
 clear hWn hWl hnd hSl hsg;generalize ZBM (ZAd (mrgU ltW l))=W at *;refine zy ?_;refine zW (ZJR (ht0.ext hE) hT hs rfl) fun h4 hE4=>?_;replace hg1:=hE4.get hg1;replace hg2:=hE4.get hg2;replace hE:=hE.trans hE4;replace hWR:ZAM 3 ZFe h4 aW W:=ZAM.ext (fun hr hE=>hr.ext hE) hWR hE4;clear hE4;clear h3;refine zy ?_;refine zD (A_ff (fun q=>q rfl) (ZAo rfl rfl)) ?_
 by_cases hf0:(mayV t s).2=0
 rotate_left
 ·have hno:=ZTr hf0
  refine zD (A_tt hf0 (ZAo rfl rfl)) ?_;refine zD (A_tt rfl (ZAs rfl rfl)) ?_;refine zD (A_ff hf0 (ZAs rfl rfl)) ?_;refine zD (A_tt hno (ZAs rfl rfl)) ?_;refine zW (ZDO (hL.ext hE)) fun h6 hE6=>?_;refine zy ?_;exact ZAB (ZAC rfl ⟨rfl,hE.trans hE6⟩)
 obtain⟨hte,hse,hmw⟩:=ZVf hf0;refine zE (A_ff (fun q=>q hf0) (ZAo rfl rfl)) ?_;rw[hf0,hmw];have hO:=ZSy hte;refine ZBt fun hw4=>?_;refine zy ?_;refine ZAK rfl rfl Zr.h Tsz.h rfl (fun _=>rfl) rfl rfl rfl fun h5 hE45 hW5 hg5 hn5=>?_;have hO5:=(Own.nil h4 h4).newCe hw4 (Nat.le_refl _) hE45 hg5 (Nat.le_refl _);obtain⟨R2,hR2,hs2⟩:=ZMC (k:=5) (R:=ScRR) (by decide) ZRs (P:=Tryz.prog) (el:=100) (tX:=85) (cap:=c2) Und.h (by intro k;simp) (ZAM.ext (R:=ScRR) (fun x _=>x) m4 hE) (fun e=>(e2 e).ext hE);obtain⟨R3,hR3,hs3⟩:=ZMC (k:=7) (R:=ScPR) (by decide) ZSH (P:=Tryz.prog) (el:=102) (tX:=86) (cap:=c3) Und.h (by intro k;simp) (ZAM.ext (R:=ScPR) (fun x y=>ScPR.ext x y) m5 hE) (fun e=>(e3 e).ext hE)
 obtain⟨R4,hR4,hs4⟩:=ZMC (k:=5) (R:=ZDC) (by decide) ZS1 (P:=Tryz.prog) (el:=104) (tX:=87) (cap:=c4) Und.h (by intro k;simp) (ZAM.ext (R:=ZDC) (fun x _=>x) m6 hE) (fun e=>(e4 e).ext hE);have o2:=ZOA ZSb hR2;have o3:=ZOA ZSR hR3;have o4:=ZOA ZSd hR4;have l2:(R2.flatMap Subtype.val).length=t.rights.length*5:=by rw[ZQL,hR2.1]
 have l3:(R3.flatMap Subtype.val).length=t.prints.length*7:=by rw[ZQL,hR3.1]
 have l4:(R4.flatMap Subtype.val).length=t.packs.length*5:=by rw[ZQL,hR4.1]
 have n2:=hO.rights1;have n3:=hO.prints1;have n4:=hO.packs1;generalize hbu:h4.nx=bu at *;have hEa:=Ext.add hW5 (.cells [] 100 false);have hEb:Ext h5 (rsv (rsv (Heap.add h5 (.cells [] 100 false)))):=(hEa.trans (Ext.rsv _)).trans (Ext.rsv _);have hOa:=hO5.newSl hW5 hE45.2.1 hEa (el:=100) (sz:=5) (cs:=[]) (n:=0) (v:=.slice (some ⟨h5.nx,0,none⟩) 0 0) (ZAD.lit Heap.get_add_same rfl (Nat.le_refl _));have hlt:=fun x hx c hc=>hOa.lt (hW5.add _) x hx c hc;have k5:=hE45.get hg1;have kb:=hEb.get k5;have h45:=hE45.2.1;refine zy ?_;refine ZAJ hmix [0,0,2,7,0,0,32,127,0,0,512,2047,15,8191,16383,32767,65535,131071] [0,1,2,4,5,6,8,9,10] (some 3) [([12],(some 7)),([],(some 11)),([],(some 13)),([14],(some 15)),([16],(some 17)),([],none)] (by kernel_rfl) (by kernel_rfl) ?_
 refine ZCX (nk:=.sl _ _) rfl rfl rfl rfl rfl (fun _ _ hs=>N_bs hs Und.h Tsz.h Zr.h rfl rfl rfl rfl rfl) ?_;refine z_f ?_;refine z_l ?_;refine ZCX (nk:=.sl _ _) rfl rfl rfl rfl rfl (fun _ _ hs=>N_bs hs Und.h Tsz.h Zr.h rfl rfl rfl rfl rfl) ?_;refine z_f ?_;refine z_l ?_;refine ZCX (nk:=.sl _ _) rfl rfl rfl rfl rfl (fun _ _ hs=>N_bs hs Und.h Tsz.h Zr.h rfl rfl rfl rfl rfl) ?_;refine z_f ?_;refine z_l ?_;refine ZAH (h1:=(rsv (rsv (Heap.add h5 _)))) [0,1,2] (by kernel_rfl) rfl (ZAA rfl) rfl rfl rfl (ZA6 (ZHT (Rs:=fun c=>c=h5.nx+1\/c=h5.nx+2) (by':=56) (sz:=5) (k:=t.rights.length) (n:=0) (l:=R2.flatMap Subtype.val) rfl hw4 (hE45.trans hEb) rfl rfl rfl rfl Und.h inferInstance rfl rfl (hOa.ext ((Ext.rsv _).trans (Ext.rsv _))) (hs2 _ (hE45.trans hEb)) l2 o2 (by omega) (by omega) (fun x hx c hc (hr:c=h5.nx+1\/c=h5.nx+2)=>by have:c<h5.nx+1:=hlt x hx c hc;omega) (fun c (hr:c=h5.nx+1\/c=h5.nx+2)=>by show c<h5.nx+1+1+1;omega) (fun v6 h6 hO6 hE6 hne6 hn6 hw6=>?_)))
 rw[List.nil_append,Nat.zero_add] at hO6 hne6;have hn6':h5.nx+1+1+1<=h6.nx:=hn6;have hU6:=Upd.mk' h6 (h5.nx+1) (.cells [] 102 false);have hO6b:=hO6.other (.cells [] 102 false) (b:=h5.nx+1) (fun x hx c hc e=>hne6 x hx c hc (.inl e));have hE6b:=hU6.ext hE6 hw4 (by omega);have hw6b:=hw6.upd hU6 (by omega)
 have hO6c:=Own.add1 hO6b (y:=slI h4 (.slice (some ⟨h5.nx+1,0,none⟩) 0 0) 102 7 [] 0) (ZAD.lit hU6.at' rfl (by omega)) (fun c hc=>by have e:h5.nx+1=c:=Option.some.inj hc;omega) (fun x hx c hc hyc=>by
  cases hyc;exact hne6 x hx _ hc (.inl rfl))
 have k6:=hE6.get hg1;have k6b:=hE6b.get hg1;refine z_f ?_;refine ZAH (h1:=(h6.set (h5.nx+1) (.cells [] 102 false))) [0,1,2,3,4,5,6] (by kernel_rfl) rfl (by refine t_l 10 ?_;refine t_f 9 ?_;refine ZHa (i:=8) (nk:=.sl _ _) rfl rfl rfl rfl rfl (fun _ _ hs=>N_bs hs Und.h Tsz.h Zr.h rfl rfl rfl rfl rfl) rfl ?_;refine t_l 6 ?_;refine t_f 5 ?_;refine ZHa (i:=4) (nk:=.sl _ _) rfl rfl rfl rfl rfl (fun _ _ hs=>N_bs hs Und.h Tsz.h Zr.h rfl rfl rfl rfl rfl) rfl ?_;exact ZAA rfl) rfl rfl rfl (ZA6 (ZHT (Rs:=fun c=>c=h5.nx+2) (by':=96) (sz:=7) (k:=t.prints.length) (n:=0) (l:=R3.flatMap Subtype.val) rfl hw4 hE6b rfl rfl rfl rfl Und.h inferInstance rfl rfl hO6c (hs3 _ hE6b) l3 o3 (by omega) (by omega) (ZVB (fun c hc (hr:c=h5.nx+2)=>by have e:h5.nx+1=c:=Option.some.inj hc;omega) (fun x hx c hc (hr:c=h5.nx+2)=>hne6 x hx c hc (.inr hr))) (fun c (hr:c=h5.nx+2)=>by show c<h6.nx;omega) (fun v7 h7 hO7 hE7 hne7 hn7 hw7=>?_)))
 rw[List.nil_append,Nat.zero_add] at hO7 hne7;have hn7':h6.nx<=h7.nx:=hn7;have hU7:=Upd.mk' h7 (h5.nx+2) (.cells [] 104 false);have hO7b:=hO7.other (.cells [] 104 false) (b:=h5.nx+2) (fun x hx c hc e=>hne7 x hx c hc e);have hE7b:=hU7.ext hE7 hw4 (by omega);have hw7b:=hw7.upd hU7 (by omega)
 have hO7c:=Own.add1 hO7b (y:=slI h4 (.slice (some ⟨h5.nx+2,0,none⟩) 0 0) 104 5 [] 0) (ZAD.lit hU7.at' rfl (by omega)) (fun c hc=>by have e:h5.nx+2=c:=Option.some.inj hc;omega) (fun x hx c hc hyc=>by
  cases hyc;exact hne7 x hx _ hc rfl)
 have k7:=hE7.get hg1;have k7b:=hE7b.get hg1;refine ZAH (h1:=(h7.set (h5.nx+2) (.cells [] 104 false))) [0,1,2,3,4,5,6,7,8,9,10] (by kernel_rfl) rfl (by refine t_f 12 ?_;refine t_l 10 ?_;refine t_f 9 ?_;refine ZHa (i:=8) (nk:=.sl _ _) rfl rfl rfl rfl rfl (fun _ _ hs=>N_bs hs Und.h Tsz.h Zr.h rfl rfl rfl rfl rfl) rfl ?_;exact ZAA rfl) rfl rfl rfl (ZA6 (ZDa (by':=64) (sz:=5) (k:=t.packs.length) (n:=0) (l:=R4.flatMap Subtype.val) rfl hw4 hE7b rfl rfl rfl rfl Und.h inferInstance rfl rfl hO7c (hs4 _ hE7b) l4 o4 (by omega) (by omega) (fun v8 h8 hO8 hE8 hw8=>?_)));rw[List.nil_append,Nat.zero_add] at hO8
 obtain⟨x8,rfl,-,-⟩:=(show ZAD h4 h8 v8 104 5 (R4.flatMap Subtype.val) t.packs.length from hO8.p1).is;obtain⟨x7,rfl,-,-⟩:=(show ZAD h4 h8 v7 102 7 (R3.flatMap Subtype.val) t.prints.length from hO8.p2).is;obtain⟨x6,rfl,-,-⟩:=(show ZAD h4 h8 v6 100 5 (R2.flatMap Subtype.val) t.rights.length from hO8.p3).is;have k8:=hE8.get hg1;refine ZAH (h1:=h8) xQ34 (by kernel_rfl) rfl (by refine t_f 12 ?_;exact ZAA rfl) rfl rfl rfl (ZA6 (ZEH rfl hw4 hE8 rfl Tsz.h rfl rfl (hO8.pick 3 rfl) rfl rfl rfl (fun h9 hO9 hE9 hw9=>?_)));have k9:=hE9.get hg1;refine z_f ?_;refine ZAH (h1:=h9) [0,1,2,3,4,5,6,7,8,9,10,11,12,13,14] (by kernel_rfl) rfl (ZAA rfl) rfl rfl rfl (ZA6 (ZEH rfl hw4 hE9 rfl Tsz.h rfl rfl hO9 rfl rfl rfl (fun h10 hO10 hE10 hw10=>?_)))
 have k10:=hE10.get hg1;refine z_f ?_;refine ZAH (h1:=h10) [0,1,2,3,4,5,6,7,8,9,10,11,12,13,14,15,16] (by kernel_rfl) rfl (ZAA rfl) rfl rfl rfl (ZA6 (ZEH rfl hw4 hE10 rfl Tsz.h rfl rfl hO10 rfl rfl rfl (fun h11 hO11 hE11 hw11=>?_)));refine ZAP (h1:=h11) (ZAA rfl) rfl ?_;have hOv:Own h4 h11 [ceI bu [i64 t.first,.slice a1 t.lands.length c1,.slice at' t.travel.length ct,.slice av t.venues.length cv,.slice x6 t.rights.length t.rights.length,.slice x7 t.prints.length t.prints.length,.slice x8 t.packs.length t.packs.length,.slice a5 t.keys.length c5,.slice a6 t.loans.length c6] 91 false,slI h4 (.slice x8 t.packs.length t.packs.length) 104 5 (R4.flatMap Subtype.val) t.packs.length,slI h4 (.slice x7 t.prints.length t.prints.length) 102 7 (R3.flatMap Subtype.val) t.prints.length,slI h4 (.slice x6 t.rights.length t.rights.length) 100 5 (R2.flatMap Subtype.val) t.rights.length]:=hO11
 clear k5 kb k6 k6b k7 k7b k8 k9 k10 hO5 hOa hO6 hO6b hO6c hO7 hO7b hO7c hO8 hO9 hO10 hO11 hne6 hne7 hU6 hU7 hE6 hE6b hE7 hE7b hE8 hE9 hE10 hw6 hw6b hw7 hw7b hw8 hw9 hw10 hn6 hn6' hn7 hn7' hlt hEb hEa hs2 hs3 hs4 o2 o3 o4 l2 l3 l4 e2 e3 e4 hE45 hW5 hg5 hn5 h45;have hR2':StR 5 ScRR h4 R2 ((t.rights.take 0).map (ScR.nm (calS W))++t.rights.drop 0):=hR2;have hR3':StR 7 ScPR h4 R3 ((t.prints.take 0).map (ScP.nm (calS W))++t.prints.drop 0):=hR3;have hR4':StR 5 ZDC h4 R4 ((t.packs.take 0).map (ScPk.nm (calS W))++t.packs.drop 0):=hR4;refine zy ?_;refine Wc.mono (Q:=fun z m' ds' h'=>z=.exit 0/\ds'=[]/\(∃rows,StR 5 ScRR h4 rows (t.rights.map (ScR.nm (calS W)))/\Own h4 h' [slI h4 (.slice x6 t.rights.length t.rights.length) 100 5 (rows.flatMap Subtype.val) t.rights.length,ceI bu [i64 t.first,.slice a1 t.lands.length c1,.slice at' t.travel.length ct,.slice av t.venues.length cv,.slice x6 t.rights.length t.rights.length,.slice x7 t.prints.length t.prints.length,.slice x8 t.packs.length t.packs.length,.slice a5 t.keys.length c5,.slice a6 t.loans.length c6] 91 false,slI h4 (.slice x8 t.packs.length t.packs.length) 104 5 (R4.flatMap Subtype.val) t.packs.length,slI h4 (.slice x7 t.prints.length t.prints.length) 102 7 (R3.flatMap Subtype.val) t.prints.length]/\Ext h4 h')/\AllK m' [(2,.slice ad l.length cap),(3,.pointer (some ⟨b1,0,none⟩)),(4,.pointer (some ⟨b2,0,none⟩)),(7,.slice aW W.length cW),(9,i64 (whyS t s)),(11,.pointer (some ⟨bu,0,none⟩))]) (ZAO (fun (k:Nat) m ds h'=>ds=[]/\k<=t.rights.length/\(∃rows,StR 5 ScRR h4 rows ((t.rights.take k).map (ScR.nm (calS W))++t.rights.drop k)/\Own h4 h' [slI h4 (.slice x6 t.rights.length t.rights.length) 100 5 (rows.flatMap Subtype.val) t.rights.length,ceI bu [i64 t.first,.slice a1 t.lands.length c1,.slice at' t.travel.length ct,.slice av t.venues.length cv,.slice x6 t.rights.length t.rights.length,.slice x7 t.prints.length t.prints.length,.slice x8 t.packs.length t.packs.length,.slice a5 t.keys.length c5,.slice a6 t.loans.length c6] 91 false,slI h4 (.slice x8 t.packs.length t.packs.length) 104 5 (R4.flatMap Subtype.val) t.packs.length,slI h4 (.slice x7 t.prints.length t.prints.length) 102 7 (R3.flatMap Subtype.val) t.prints.length]/\Ext h4 h')/\AllK m [(2,.slice ad l.length cap),(3,.pointer (some ⟨b1,0,none⟩)),(4,.pointer (some ⟨b2,0,none⟩)),(7,.slice aW W.length cW),(9,i64 (whyS t s)),(11,.pointer (some ⟨bu,0,none⟩)),(12,i64 (k:Nat))]) (fun k=>t.rights.length-k) 0 ?_ ?_) ?_
 ·exact⟨rfl,Nat.zero_le _,⟨R2,hR2',(hOv.pick 3 rfl),hE11⟩,rfl,rfl,rfl,rfl,rfl,rfl,rfl,trivial⟩
 ·rintro k m ds h6 ⟨rfl,hk,⟨rows,hSt,hO6,hE6⟩,hall⟩
  refine Wc.le ?_ (Le.kn hall);clear hall;refine ZDF fun hw6=>?_;have zu:ZAZ h6 bu 4=some (.slice x6 t.rights.length t.rights.length):=ZAl hO6.p2 rfl;refine zy ?_;refine zC (ZAf rfl rfl) (fun hlt=>?_) (fun hlt=>?_);rotate_left
  ·have hk2:k=t.rights.length:=by omega
   subst hk2;rw[List.take_length,List.drop_length,List.append_nil] at hSt;refine zy ?_;exact⟨rfl,rfl,⟨rows,hSt,hO6,hE6⟩,rfl,rfl,rfl,rfl,rfl,rfl,trivial⟩
  have hk':k<t.rights.length:=by omega
  have hkm:k<((t.rights.take k).map (ScR.nm (calS W))++t.rights.drop k).length:=by rw[ZMA (by omega)];exact hk'
  have hF6:ZAD h4 h6 (.slice x6 t.rights.length t.rights.length) _ 5 (rows.flatMap Subtype.val) t.rights.length:=hO6.p1;obtain⟨b6,sp6,op6,e6,hgc,hcl,-⟩:=hF6.blk (by omega);simp only[Value.slice.injEq,and_true] at e6;subst e6;have hrl:k<rows.length:=by rw[hSt.1];exact hkm
  have hrow:=ZM3 hF6 hrl;have hRk:=hSt.2 k hkm hrl;rw[ZM5 hk'] at hRk;have hst2:=ZPu (v:=str (calS W t.rights[k].work)) (y:=ScR.nm (calS W) t.rights[k]) hSt hkm (show 0<5 by decide) (fun hi'=>by show (rows[k].1).set 0 _=_;rw[show rows[k].1=_ from hRk];rfl);obtain⟨rows',hSt',hfl⟩:=hst2;rw[ZL1 hk'] at hSt';have z0:ZAZ h6 b6 (0+k*5+0)=some (str t.rights[k].work):=by rw[show rows[k].1=_ from hRk] at hrow;exact ZAQ hrow rfl
  have hly:0+k*5+0<(rows.flatMap Subtype.val).length:=by rw[hcl];omega
  refine zy ?_;refine ZAJ hmix xQ31 xQ36 (some 10) [([11,12],(some 13)),([],none)] (by kernel_rfl) (by kernel_rfl) ?_;refine z_f ?_;refine z_l ?_;refine z_m ?_;refine z_m ?_;refine z_f ?_;refine z_l ?_;refine z_m ?_;refine ZAE rfl rfl rfl rfl rfl (fun _=>A_ix (k:=k) Und.h Tsz.h rfl rfl) ?_;refine z_f ?_;refine z_l ?_;refine ZAH xQ39 (by kernel_rfl) rfl (ZAA rfl) rfl nb rfl (ZAT rfl rfl rfl rfl rfl Bod.h (ZHb (ZAM.ext (R:=ZFe) (fun x y=>ZFe.ext y x) hWR hE6) hWL hWN) ?_);refine ZAE rfl rfl rfl rfl rfl (fun _=>A_ix (k:=k) Und.h Tsz.h rfl rfl) ?_;refine z_f ?_;refine ZAH xQ34 (by kernel_rfl) rfl (by refine t_m 2 ?_;refine t_l 1 ?_;refine t_f 0 ?_;exact ZAA rfl) rfl nb rfl (ZAz rfl rfl Tsz.h rfl rfl hgc rfl rfl (ZCx hly) (fun h7 hU7=>?_))
  refine ZAP (ZAA rfl) nb' ?_;obtain⟨hO7,hE7⟩:=Own.setSlK hO6 hw6 hE6 hw4 hU7 (by rw[List.length_set]);rw[Nat.zero_add,hfl] at hO7;refine zy ?_;exact⟨k+1,(by show t.rights.length-(k+1)<t.rights.length-k;omega),rfl,hk',⟨rows',hSt',hO7,hE7⟩,rfl,rfl,rfl,rfl,rfl,rfl,rfl,trivial⟩
 rintro _ m' ds' h12 ⟨rfl,rfl,⟨Q2,hSQ2,hOQ2,hEQ2⟩,hall⟩
 show Wc _ _ _ _ _ _ _
 refine Wc.le ?_ (Le.kn hall);clear hall;refine zy ?_;refine Wc.mono (Q:=fun z m' ds' h'=>z=.exit 2/\ds'=[]/\(∃rows,StR 7 ScPR h4 rows (t.prints.map (ScP.nm (calS W)))/\Own h4 h' [slI h4 (.slice x7 t.prints.length t.prints.length) 102 7 (rows.flatMap Subtype.val) t.prints.length,slI h4 (.slice x6 t.rights.length t.rights.length) 100 5 (Q2.flatMap Subtype.val) t.rights.length,ceI bu [i64 t.first,.slice a1 t.lands.length c1,.slice at' t.travel.length ct,.slice av t.venues.length cv,.slice x6 t.rights.length t.rights.length,.slice x7 t.prints.length t.prints.length,.slice x8 t.packs.length t.packs.length,.slice a5 t.keys.length c5,.slice a6 t.loans.length c6] 91 false,slI h4 (.slice x8 t.packs.length t.packs.length) 104 5 (R4.flatMap Subtype.val) t.packs.length]/\Ext h4 h')/\AllK m' [(2,.slice ad l.length cap),(3,.pointer (some ⟨b1,0,none⟩)),(4,.pointer (some ⟨b2,0,none⟩)),(7,.slice aW W.length cW),(9,i64 (whyS t s)),(11,.pointer (some ⟨bu,0,none⟩))]) (ZAO (fun (k:Nat) m ds h'=>ds=[]/\k<=t.prints.length/\(∃rows,StR 7 ScPR h4 rows ((t.prints.take k).map (ScP.nm (calS W))++t.prints.drop k)/\Own h4 h' [slI h4 (.slice x7 t.prints.length t.prints.length) 102 7 (rows.flatMap Subtype.val) t.prints.length,slI h4 (.slice x6 t.rights.length t.rights.length) 100 5 (Q2.flatMap Subtype.val) t.rights.length,ceI bu [i64 t.first,.slice a1 t.lands.length c1,.slice at' t.travel.length ct,.slice av t.venues.length cv,.slice x6 t.rights.length t.rights.length,.slice x7 t.prints.length t.prints.length,.slice x8 t.packs.length t.packs.length,.slice a5 t.keys.length c5,.slice a6 t.loans.length c6] 91 false,slI h4 (.slice x8 t.packs.length t.packs.length) 104 5 (R4.flatMap Subtype.val) t.packs.length]/\Ext h4 h')/\AllK m [(2,.slice ad l.length cap),(3,.pointer (some ⟨b1,0,none⟩)),(4,.pointer (some ⟨b2,0,none⟩)),(7,.slice aW W.length cW),(9,i64 (whyS t s)),(11,.pointer (some ⟨bu,0,none⟩)),(13,i64 (k:Nat))]) (fun k=>t.prints.length-k) 0 ?_ ?_) ?_
 ·exact⟨rfl,Nat.zero_le _,⟨R3,hR3',(hOQ2.pick 3 rfl),hEQ2⟩,rfl,rfl,rfl,rfl,rfl,rfl,rfl,trivial⟩
 ·rintro k m ds h6 ⟨rfl,hk,⟨rows,hSt,hO6,hE6⟩,hall⟩
  refine Wc.le ?_ (Le.kn hall);clear hall;refine ZDF fun hw6=>?_;have zu:ZAZ h6 bu 5=some (.slice x7 t.prints.length t.prints.length):=ZAl hO6.p3 rfl;refine zy ?_;refine zC (ZAf rfl rfl) (fun hlt=>?_) (fun hlt=>?_);rotate_left
  ·have hk2:k=t.prints.length:=by omega
   subst hk2;rw[List.take_length,List.drop_length,List.append_nil] at hSt;refine zy ?_;exact⟨rfl,rfl,⟨rows,hSt,hO6,hE6⟩,rfl,rfl,rfl,rfl,rfl,rfl,trivial⟩
  have hk':k<t.prints.length:=by omega
  have hkm:k<((t.prints.take k).map (ScP.nm (calS W))++t.prints.drop k).length:=by rw[ZMA (by omega)];exact hk'
  have hF6:ZAD h4 h6 (.slice x7 t.prints.length t.prints.length) _ 7 (rows.flatMap Subtype.val) t.prints.length:=hO6.p1;obtain⟨b6,sp6,op6,e6,hgc,hcl,-⟩:=hF6.blk (by omega);simp only[Value.slice.injEq,and_true] at e6;subst e6;have hrl:k<rows.length:=by rw[hSt.1];exact hkm
  have hrow:=ZM3 hF6 hrl;have hRk:=hSt.2 k hkm hrl;rw[ZM5 hk'] at hRk;have hst2:=ZPu (v:=str (calS W t.prints[k].work)) (y:=ScP.nm (calS W) t.prints[k]) hSt hkm (show 1<7 by decide) (fun hi'=>by obtain⟨aq,cq,eq,hIq⟩:=hRk;exact⟨aq,cq,by rw[eq];rfl,hIq⟩);obtain⟨rows',hSt',hfl⟩:=hst2;rw[ZL1 hk'] at hSt';have z0:ZAZ h6 b6 (0+k*7+1)=some (str t.prints[k].work):=by obtain⟨aq,cq,eq,hIq⟩:=hRk;rw[eq] at hrow;exact ZAQ hrow rfl
  have hly:0+k*7+1<(rows.flatMap Subtype.val).length:=by rw[hcl];omega
  refine zy ?_;refine ZAJ hmix xQ31 xQ36 (some 10) [([11,12],(some 13)),([],none)] (by kernel_rfl) (by kernel_rfl) ?_;refine z_f ?_;refine z_l ?_;refine z_m ?_;refine z_m ?_;refine z_f ?_;refine z_l ?_;refine z_m ?_;refine ZAE rfl rfl rfl rfl rfl (fun _=>A_ix (k:=k) Und.h Tsz.h rfl rfl) ?_;refine z_f ?_;refine z_l ?_;refine ZAH xQ39 (by kernel_rfl) rfl (ZAA rfl) rfl nb rfl (ZAT rfl rfl rfl rfl rfl Bod.h (ZHb (ZAM.ext (R:=ZFe) (fun x y=>ZFe.ext y x) hWR hE6) hWL hWN) ?_);refine ZAE rfl rfl rfl rfl rfl (fun _=>A_ix (k:=k) Und.h Tsz.h rfl rfl) ?_;refine z_f ?_;refine ZAH xQ34 (by kernel_rfl) rfl (by refine t_m 2 ?_;refine t_l 1 ?_;refine t_f 0 ?_;exact ZAA rfl) rfl nb rfl (ZAz rfl rfl Tsz.h rfl rfl hgc rfl rfl (ZCx hly) (fun h7 hU7=>?_))
  refine ZAP (ZAA rfl) nb' ?_;obtain⟨hO7,hE7⟩:=Own.setSlK hO6 hw6 hE6 hw4 hU7 (by rw[List.length_set]);rw[Nat.zero_add,hfl] at hO7;refine zy ?_;exact⟨k+1,(by show t.prints.length-(k+1)<t.prints.length-k;omega),rfl,hk',⟨rows',hSt',hO7,hE7⟩,rfl,rfl,rfl,rfl,rfl,rfl,rfl,trivial⟩
 rintro _ m' ds' h13 ⟨rfl,rfl,⟨Q3,hSQ3,hOQ3,hEQ3⟩,hall⟩
 show Wc _ _ _ _ _ _ _
 refine Wc.le ?_ (Le.kn hall);clear hall;refine zy ?_;refine Wc.mono (Q:=fun z m' ds' h'=>z=.exit 4/\ds'=[]/\(∃rows,StR 5 ZDC h4 rows (t.packs.map (ScPk.nm (calS W)))/\Own h4 h' [slI h4 (.slice x8 t.packs.length t.packs.length) 104 5 (rows.flatMap Subtype.val) t.packs.length,slI h4 (.slice x7 t.prints.length t.prints.length) 102 7 (Q3.flatMap Subtype.val) t.prints.length,slI h4 (.slice x6 t.rights.length t.rights.length) 100 5 (Q2.flatMap Subtype.val) t.rights.length,ceI bu [i64 t.first,.slice a1 t.lands.length c1,.slice at' t.travel.length ct,.slice av t.venues.length cv,.slice x6 t.rights.length t.rights.length,.slice x7 t.prints.length t.prints.length,.slice x8 t.packs.length t.packs.length,.slice a5 t.keys.length c5,.slice a6 t.loans.length c6] 91 false]/\Ext h4 h')/\AllK m' [(2,.slice ad l.length cap),(3,.pointer (some ⟨b1,0,none⟩)),(4,.pointer (some ⟨b2,0,none⟩)),(7,.slice aW W.length cW),(9,i64 (whyS t s)),(11,.pointer (some ⟨bu,0,none⟩))]) (ZAO (fun (k:Nat) m ds h'=>ds=[]/\k<=t.packs.length/\(∃rows,StR 5 ZDC h4 rows ((t.packs.take k).map (ScPk.nm (calS W))++t.packs.drop k)/\Own h4 h' [slI h4 (.slice x8 t.packs.length t.packs.length) 104 5 (rows.flatMap Subtype.val) t.packs.length,slI h4 (.slice x7 t.prints.length t.prints.length) 102 7 (Q3.flatMap Subtype.val) t.prints.length,slI h4 (.slice x6 t.rights.length t.rights.length) 100 5 (Q2.flatMap Subtype.val) t.rights.length,ceI bu [i64 t.first,.slice a1 t.lands.length c1,.slice at' t.travel.length ct,.slice av t.venues.length cv,.slice x6 t.rights.length t.rights.length,.slice x7 t.prints.length t.prints.length,.slice x8 t.packs.length t.packs.length,.slice a5 t.keys.length c5,.slice a6 t.loans.length c6] 91 false]/\Ext h4 h')/\AllK m [(2,.slice ad l.length cap),(3,.pointer (some ⟨b1,0,none⟩)),(4,.pointer (some ⟨b2,0,none⟩)),(7,.slice aW W.length cW),(9,i64 (whyS t s)),(11,.pointer (some ⟨bu,0,none⟩)),(14,i64 (k:Nat))]) (fun k=>t.packs.length-k) 0 ?_ ?_) ?_
 ·exact⟨rfl,Nat.zero_le _,⟨R4,hR4',(hOQ3.pick 3 rfl),hEQ3⟩,rfl,rfl,rfl,rfl,rfl,rfl,rfl,trivial⟩
 ·rintro k m ds h6 ⟨rfl,hk,⟨rows,hSt,hO6,hE6⟩,hall⟩
  refine Wc.le ?_ (Le.kn hall);clear hall;refine ZDF fun hw6=>?_;have zu:ZAZ h6 bu 6=some (.slice x8 t.packs.length t.packs.length):=ZAl hO6.p4 rfl;refine zy ?_;refine zC (ZAf rfl rfl) (fun hlt=>?_) (fun hlt=>?_);rotate_left
  ·have hk2:k=t.packs.length:=by omega
   subst hk2;rw[List.take_length,List.drop_length,List.append_nil] at hSt;refine zy ?_;exact⟨rfl,rfl,⟨rows,hSt,hO6,hE6⟩,rfl,rfl,rfl,rfl,rfl,rfl,trivial⟩
  have hk':k<t.packs.length:=by omega
  have hkm:k<((t.packs.take k).map (ScPk.nm (calS W))++t.packs.drop k).length:=by rw[ZMA (by omega)];exact hk'
  have hF6:ZAD h4 h6 (.slice x8 t.packs.length t.packs.length) _ 5 (rows.flatMap Subtype.val) t.packs.length:=hO6.p1;obtain⟨b6,sp6,op6,e6,hgc,hcl,-⟩:=hF6.blk (by omega);simp only[Value.slice.injEq,and_true] at e6;subst e6;have hrl:k<rows.length:=by rw[hSt.1];exact hkm
  have hrow:=ZM3 hF6 hrl;have hRk:=hSt.2 k hkm hrl;rw[ZM5 hk'] at hRk;have hst2:=ZPu (v:=str (calS W t.packs[k].work)) (y:=ScPk.nm (calS W) t.packs[k]) hSt hkm (show 1<5 by decide) (fun hi'=>by show (rows[k].1).set 1 _=_;rw[show rows[k].1=_ from hRk];rfl);obtain⟨rows',hSt',hfl⟩:=hst2;rw[ZL1 hk'] at hSt';have z0:ZAZ h6 b6 (0+k*5+1)=some (str t.packs[k].work):=by rw[show rows[k].1=_ from hRk] at hrow;exact ZAQ hrow rfl
  have hly:0+k*5+1<(rows.flatMap Subtype.val).length:=by rw[hcl];omega
  refine zy ?_;refine ZAJ hmix xQ31 xQ36 (some 10) [([11,12],(some 13)),([],none)] (by kernel_rfl) (by kernel_rfl) ?_;refine z_f ?_;refine z_l ?_;refine z_m ?_;refine z_m ?_;refine z_f ?_;refine z_l ?_;refine z_m ?_;refine ZAE rfl rfl rfl rfl rfl (fun _=>A_ix (k:=k) Und.h Tsz.h rfl rfl) ?_;refine z_f ?_;refine z_l ?_;refine ZAH xQ39 (by kernel_rfl) rfl (ZAA rfl) rfl nb rfl (ZAT rfl rfl rfl rfl rfl Bod.h (ZHb (ZAM.ext (R:=ZFe) (fun x y=>ZFe.ext y x) hWR hE6) hWL hWN) ?_);refine ZAE rfl rfl rfl rfl rfl (fun _=>A_ix (k:=k) Und.h Tsz.h rfl rfl) ?_;refine z_f ?_;refine ZAH xQ34 (by kernel_rfl) rfl (by refine t_m 2 ?_;refine t_l 1 ?_;refine t_f 0 ?_;exact ZAA rfl) rfl nb rfl (ZAz rfl rfl Tsz.h rfl rfl hgc rfl rfl (ZCx hly) (fun h7 hU7=>?_))
  refine ZAP (ZAA rfl) nb' ?_;obtain⟨hO7,hE7⟩:=Own.setSlK hO6 hw6 hE6 hw4 hU7 (by rw[List.length_set]);rw[Nat.zero_add,hfl] at hO7;refine zy ?_;exact⟨k+1,(by show t.packs.length-(k+1)<t.packs.length-k;omega),rfl,hk',⟨rows',hSt',hO7,hE7⟩,rfl,rfl,rfl,rfl,rfl,rfl,rfl,trivial⟩
 rintro _ m' ds' h14 ⟨rfl,rfl,⟨Q4,hSQ4,hOQ4,hEQ4⟩,hall⟩
 show Wc _ _ _ _ _ _ _
 refine Wc.le ?_ (Le.kn hall);clear hall;have hF6:ZAD h4 h14 (.slice x6 t.rights.length t.rights.length) 100 5 (Q2.flatMap Subtype.val) (t.nm (calS W)).rights.length:=by
  rw[show (t.nm (calS W)).rights.length=t.rights.length from List.length_map _];exact hOQ4.p3
 have hF7:ZAD h4 h14 (.slice x7 t.prints.length t.prints.length) 102 7 (Q3.flatMap Subtype.val) (t.nm (calS W)).prints.length:=by
  rw[show (t.nm (calS W)).prints.length=t.prints.length from List.length_map _];exact hOQ4.p2
 have hF8:ZAD h4 h14 (.slice x8 t.packs.length t.packs.length) 104 5 (Q4.flatMap Subtype.val) (t.nm (calS W)).packs.length:=by
  rw[show (t.nm (calS W)).packs.length=t.packs.length from List.length_map _];exact hOQ4.p1
 obtain⟨y6,q6,hr6⟩:=ZMX (R:=ScRR) (l:=(t.nm (calS W)).rights) (fun x _=>x) hSQ2 hEQ4 hF6;obtain⟨y7,q7,hr7⟩:=ZMX (R:=ScPR) (l:=(t.nm (calS W)).prints) (fun x y=>ScPR.ext x y) hSQ3 hEQ4 hF7;obtain⟨y8,q8,hr8⟩:=ZMX (R:=ZDC) (l:=(t.nm (calS W)).packs) (fun x _=>x) hSQ4 hEQ4 hF8;have gu:h14.get bu=_:=hOQ4.p4;rw[q6,q7,q8] at gu;replace hE:=hE.trans hEQ4;replace hg1:=hEQ4.get hg1;replace hg2:=hEQ4.get hg2
 have hU:ZDk h14 [i64 t.first,.slice a1 t.lands.length c1,.slice at' t.travel.length ct,.slice av t.venues.length cv,.slice y6 (t.nm (calS W)).rights.length (t.nm (calS W)).rights.length,.slice y7 (t.nm (calS W)).prints.length (t.nm (calS W)).prints.length,.slice y8 (t.nm (calS W)).packs.length (t.nm (calS W)).packs.length,.slice a5 t.keys.length c5,.slice a6 t.loans.length c6] (t.nm (calS W)) :=
  ⟨a1,c1,at',ct,av,cv,y6,_,y7,_,y8,_,a5,c5,a6,c6,rfl,m1.ext hE,ZAM.ext (R:=ZCh) (fun x y=>ZCh.ext x y) m2 hE,ZAM.ext (R:=ScVR) (fun x _=>x) m3 hE,hr6,hr7,hr8,ZAM.ext (R:=ScKR) (fun x _=>x) m7 hE,ZAM.ext (R:=ScLR) (fun x _=>x) m8 hE⟩
 clear hOQ4 hEQ4 hF6 hF7 hF8 hSQ2 hSQ3 hSQ4 q6 q7 q8;refine zy ?_;refine zW (ZJR hU (ZVl hT hte hcn) hs rfl) fun h15 hE15=>?_;replace hg1:=hE15.get hg1;replace hg2:=hE15.get hg2;replace hE:=hE.trans hE15;have hmv:mayV (t.nm (calS W)) s=(whyS (t.nm (calS W)) s,0):=by
  unfold mayV;rw[if_pos (ZTR hcn hte),if_pos (by rw[ZRv];exact hse)]
 rw[hmv];obtain⟨hw1,hw2⟩:=ZVw (c:=calS W) hse;generalize whyS (t.nm (calS W)) s=r' at *;have hwk:ZBi t s=ZBi t s:=rfl;generalize hrr:whyS t s=r at *;clear hU gu hE15 hr6 hr7 hr8 hmv;refine zy ?_;refine zD (A_ff (fun q=>q rfl) (ZAo rfl rfl)) ?_
 by_cases hr1:r=211
 rotate_left
 ·refine zD (A_tt hr1 (ZAo rfl rfl)) ?_
  refine zD (A_ff (fun q=>q (hw1 hr1)) (ZAo rfl rfl)) ?_;refine zD (A_tt hr1 (ZAo rfl rfl)) ?_;refine zW (ZDO (hL.ext hE)) fun h16 hE16=>?_;refine zy ?_;exact ZAB (ZAC rfl ⟨rfl,hE.trans hE16⟩)
 refine zD (A_ff (fun q=>q hr1) (ZAo rfl rfl)) ?_;refine zD (A_ff (fun q=>q hr1) (ZAo rfl rfl)) ?_
 by_cases hr2:r'=211
 ·refine zD (A_tt hr2 (ZAs rfl rfl)) ?_
  refine zW (ZDO (hL.ext hE)) fun h16 hE16=>?_;refine zy ?_;exact ZAB (ZAC rfl ⟨rfl,hE.trans hE16⟩)
 refine zE (A_ff hr2 (ZAs rfl rfl)) ?_;obtain⟨rq,hrq,hq1,hq2⟩:=hw2 hr1 hr2;have hP:=hcp _ _ hq1.symm (Ne.symm hq2);have hpp:=(ZCT hse).2.1;refine zy ?_;refine zD (A_ff (by omega) (ZDh rfl rfl)) ?_;refine zD (A_ff (by omega) (ZDh rfl rfl)) ?_;have hwL:Len (ZBi t s):=by
  unfold ZBi
  rcases hpp with ⟨p1,p2,p3⟩|⟨p1,p2,p3⟩
  ·rw[if_pos p1];exact (hT.printsF _ (ZFS p1 p2)).work
  ·rw[if_neg (by omega)];exact (hT.packsF _ (ZFS p1 p2)).work
 rcases hpp with ⟨p1,p2,p3⟩|⟨p1,p2,p3⟩
 rotate_left;refine zD (A_tt (show s.print<0 by omega) (ZAf rfl rfl)) ?_;refine zD (A_ff (show ¬s.pack<0 by omega) (ZAf rfl rfl)) ?_;refine zE (A_ff (show ¬0<=s.print by omega) (ZDh rfl rfl)) ?_;obtain⟨b7,o7,oa7,rfl,row7,hrw7,er7⟩:=m6 s.pack.toNat (by omega);have hrw15:=hE.row hrw7;rw[show row7=_ from er7] at hrw15;have z1:ZAZ h15 b7 (o7+s.pack.toNat*5+1)=some (str (t.packs[s.pack.toNat]'(by omega)).work):=ZAQ hrw15 rfl;have ewk:ZBi t s=(t.packs[s.pack.toNat]'(by omega)).work:=by
  unfold ZBi;rw[if_neg (by omega)];unfold pkAt;rw[List.getD_eq_getElem?_getD,List.getElem?_eq_getElem (by omega)];rfl
 rw[<-ewk] at z1;refine zy ?_;refine zD (ZAL (k:=s.pack.toNat) Und.h Tsz.h rfl rfl (by omega) (by omega)) ?_;rotate_left;refine zD (A_ff (show ¬s.print<0 by omega) (ZAf rfl rfl)) ?_;refine zE (A_tt p1 (ZDh rfl rfl)) ?_;obtain⟨b7,o7,oa7,rfl,row7,hrw7,aq,cq,er7,-⟩:=m5 s.print.toNat (by omega);have hrw15:=hE.row hrw7;rw[er7] at hrw15;have z1:ZAZ h15 b7 (o7+s.print.toNat*7+1)=some (str (t.prints[s.print.toNat]'(by omega)).work):=ZAQ hrw15 rfl;have ewk:ZBi t s=(t.prints[s.print.toNat]'(by omega)).work:=by
  unfold ZBi;rw[if_pos p1];unfold prAt;rw[List.getD_eq_getElem?_getD,List.getElem?_eq_getElem (by omega)];rfl
 rw[<-ewk] at z1;refine zy ?_;refine zD (ZAL (k:=s.print.toNat) Und.h Tsz.h rfl rfl (by omega) (by omega)) ?_
 all_goals
  refine ZAO (fun (k:Nat) m ds h'=>ds=[]/\k<=t.rights.length/\Ext h15 h'/\AllK m [(2,.slice ad l.length cap),(3,.pointer (some ⟨b1,0,none⟩)),(16,str (ZBi t s)),(17,.bool ((t.rights.take k).any fun r=>fndB l (ZBi t s) r.work)),(18,i64 (k:Nat))]) (fun k=>t.rights.length-k) 0 ⟨rfl,Nat.zero_le _,Ext.refl _,rfl,rfl,rfl,rfl,rfl,trivial⟩ ?_;rintro k m ds h16 ⟨rfl,hk,hE16,hall⟩;refine Wc.le ?_ (Le.kn hall);clear hall;have hgk:=hE16.get hg1;refine zy ?_;refine zC (ZAf rfl rfl) (fun hlt=>?_) (fun hlt=>?_);rotate_left
  ·have hk2:k=t.rights.length:=by omega
   subst hk2;have hany:((t.rights.take t.rights.length).any fun r=>fndB l (ZBi t s) r.work)=true:=by
    rw[List.take_length];exact List.any_eq_true.2 ⟨rq,hrq,by unfold fndB;rw[decide_eq_true hP.1,decide_eq_true hP.2];rfl⟩
   rw[hany];refine zy ?_;refine zW (ZDO (hL.ext (hE.trans hE16))) fun h17 hE17=>?_;refine zy ?_;exact ZAB (ZAC rfl ⟨rfl,(hE.trans hE16).trans hE17⟩)
  have hk':k<t.rights.length:=by omega
  obtain⟨b9,o9,oa9,rfl,row9,hrw9,er9⟩:=m4 k hk';have hrw:=(hE.trans hE16).row hrw9;rw[show row9=_ from er9] at hrw;have z9:ZAZ h16 b9 (o9+k*5+0)=some (str t.rights[k].work):=ZAQ hrw rfl;have hrl:=(hT.rightsF _ (List.getElem_mem hk')).work;have hsn:((t.rights.take (k+1)).any fun r=>fndB l (ZBi t s) r.work)=(((t.rights.take k).any fun r=>fndB l (ZBi t s) r.work) || fndB l (ZBi t s) t.rights[k].work):=by
   rw[List.take_succ_eq_append_getElem hk',List.any_append];simp
  refine zy ?_;refine zD (A_ix Und.h Tsz.h rfl rfl) ?_;refine zR (ZQi (a:=ZBi t s) (b:=t.rights[k].work) (hR.ext (hE.trans hE16)) hn hf hlen (hL.ext (hE.trans hE16)) hwL hrl) ?_;rintro _ h17 ⟨v1,rfl,hFv,hE17⟩;obtain⟨xv,rfl,-,-⟩:=hFv.is;clear hFv;generalize ((t.rights.take k).any fun r=>fndB l (ZBi t s) r.work)=fb at *;unfold fndB at hsn;generalize hsa:ZHA l (ZBi t s) t.rights[k].work=sa at *;refine zy ?_;cases fb
  ·refine zy ?_
   by_cases q1:sa.2=0
   ·refine zD (A_tt q1 (ZAs rfl rfl)) ?_
    by_cases q2:1<sa.1.length
    ·rw[decide_eq_true q1,decide_eq_true q2] at hsn
     refine zD (A_tt (show (1:Int)<(sa.1.length:Nat) by omega) (ZCl rfl rfl)) ?_;exact⟨k+1,(by show t.rights.length-(k+1)<t.rights.length-k;omega),rfl,hk',hE16.trans hE17,rfl,rfl,rfl,(by unfold fndB;rw[hsn];rfl),rfl,trivial⟩
    ·rw[decide_eq_true q1,decide_eq_false q2] at hsn
     refine zD (A_ff (show ¬(1:Int)<(sa.1.length:Nat) by omega) (ZCl rfl rfl)) ?_;exact⟨k+1,(by show t.rights.length-(k+1)<t.rights.length-k;omega),rfl,hk',hE16.trans hE17,rfl,rfl,rfl,(by unfold fndB;rw[hsn];rfl),rfl,trivial⟩
   ·rw[decide_eq_false q1] at hsn
    refine zD (A_ff q1 (ZAs rfl rfl)) ?_;exact⟨k+1,(by show t.rights.length-(k+1)<t.rights.length-k;omega),rfl,hk',hE16.trans hE17,rfl,rfl,rfl,(by unfold fndB;rw[hsn];rfl),rfl,trivial⟩
  ·refine zy ?_
   exact⟨k+1,(by show t.rights.length-(k+1)<t.rights.length-k;omega),rfl,hk',hE16.trans hE17,rfl,rfl,rfl,(by unfold fndB;rw[hsn];rfl),rfl,trivial⟩
end Go.Dw
