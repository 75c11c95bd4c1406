/- VE: tasks whose notes stand alike have the same gaps, ZFL and pieces; lists that are merged in another order. -/
import Derived.Test.YtphonfljfmedgaaGreatDoorAG17
import Derived.Test.YtphonfljfmedgaaGreatDoorAUX
import Derived.Test.YtphonfljfmedgaaGreatDoorAG20
set_option linter.unusedVariables false
set_option linter.unusedSimpArgs false
namespace Go.Dw
open Go Go.Dx Go.Proofs
set_option maxRecDepth 100000
theorem ZF1:∀{l:List Nt},ZBx l=0->∀x∈l,ZA8 x=0
 | [],_,_,h=>nomatch h
 | y::l,h,x,hx=>by
  unfold ZBx at h
  by_cases h1:ZA8 y=0
  ·rw[if_neg (fun q=>q h1)] at h
   rcases List.mem_cons.1 hx with rfl|hx
   ·exact h1
   ·exact ZF1 h x hx
  ·rw[if_pos h1] at h;exact absurd h h1
theorem ZIJ:∀{l:List Nt},(∀x∈l,ZA8 x=0)->ZBx l=0
 | [],_=>rfl
 | y::l,h=>by
  unfold ZBx;rw[if_neg (fun q=>q (h y List.mem_cons_self))];exact ZIJ fun x hx=>h x (List.mem_cons_of_mem _ hx)
theorem ZE9:∀{L:List (List Nt)},ZBP L=0->∀l∈L,l.length<=60/\∀x∈l,ZA8 x=0
 | [],_,_,h=>nomatch h
 | k::L,h,l,hl=>by
  unfold ZBP at h
  split at h
  ·exact absurd h (by decide)
  rename_i h0
  by_cases h1:ZBx k=0
  ·rw[if_neg (fun q=>q h1)] at h
   rcases List.mem_cons.1 hl with rfl|hl
   ·exact⟨by omega,ZF1 h1⟩
   ·exact ZE9 h l hl
  ·rw[if_pos h1] at h;exact absurd h h1
theorem ZGx:∀{L:List (List Nt)},(∀l∈L,l.length<=60/\∀x∈l,ZA8 x=0)->ZBP L=0
 | [],_=>rfl
 | k::L,h=>by
  unfold ZBP;obtain⟨h1,h2⟩:=h k List.mem_cons_self;rw[if_neg (by omega),if_neg (fun q=>q (ZIJ h2))];exact ZGx fun l hl=>h l (List.mem_cons_of_mem _ hl)
theorem ZIU {L:List (List Nt)}(h:ZBN L=0):L.length<=8/\(∀l∈L,l.length<=60/\∀x∈l,ZA8 x=0)/\(ZAO L.flatten).length<=60:=by
 unfold ZBN at h
 split at h
 ·exact absurd h (by decide)
 rename_i h1
 by_cases h2:ZBP L=0
 ·rw[if_neg (fun q=>q h2)] at h
  split at h
  ·exact absurd h (by decide)
  exact⟨by omega,ZE9 h2,by omega⟩
 ·rw[if_pos h2] at h;exact absurd h h2
theorem ZRD {L:List (List Nt)}(h1:L.length<=8)(h2:∀l∈L,l.length<=60/\∀x∈l,ZA8 x=0)(h3:(ZAO L.flatten).length<=60):ZBN L=0:=by
 unfold ZBN;rw[if_neg (by omega),if_neg (fun q=>q (ZGx h2)),if_neg (by omega)]
theorem ZEq {fr:Int}:∀{l:List Nt},(∀x∈l,ZA8 x=0/\x.til<fr)->ZCB fr l=0
 | [],_=>rfl
 | y::l,h=>by
  unfold ZCB;obtain⟨h1,h2⟩:=h y List.mem_cons_self;rw[if_neg (fun q=>q h1),if_neg (by omega)];exact ZEq fun x hx=>h x (List.mem_cons_of_mem _ hx)
structure ZDU (a b:Tk):Prop where
 r:a.r=b.r
 lo:a.wlo=b.wlo
 hi:a.whi=b.whi
 s:ZAO a.notes=ZAO b.notes
 e:ZAl a=ZAl b
theorem ZDU.of {r:Rl}{lo hi:Int}{A B:List Nt}(hs:ZAO A=ZAO B)(hA:A.length<=60)(hB:B.length<=60)(gA:∀x∈A,ZA8 x=0/\x.til<r.frames)(gB:∀x∈B,ZA8 x=0/\x.til<r.frames):ZDU ⟨r,lo,hi,A⟩ ⟨r,lo,hi,B⟩:=by
 refine⟨rfl,rfl,rfl,hs,?_⟩;unfold ZAl;simp only;rw[if_neg (show ¬60<A.length by omega),if_neg (show ¬60<B.length by omega),ZEq gA,ZEq gB]
section
variable {a b:Tk}(h:ZDU a b)
include h
theorem ZDU.ld:ldT a=ldT b:=by unfold ldT;rw[h.s,h.r]
theorem ZDU.sp:spT a=spT b:=by unfold spT;rw[h.s,h.r]
theorem ZDU.pc:pcT a=pcT b:=by unfold pcT;rw[h.ld,h.sp,h.r]
theorem ZDU.gp:gpT a=gpT b:=by unfold gpT;rw[h.s,h.pc,h.r]
theorem ZDU.gr:grT a=grT b:=by unfold grT;rw[h.ld,h.gp,h.r,h.lo,h.hi]
theorem ZDU.nw:nwT a=nwT b:=by unfold nwT;rw[h.gr]
theorem ZDU.gaps:ZED a=ZED b:=by unfold ZED;rw[h.e,h.nw,h.gr,h.gp]
theorem ZDU.place (f:Int):ZCp a f=ZCp b f:=by unfold ZCp;rw[h.e,h.nw,h.gr,h.ld,h.r]
end
theorem ZQa {h:Heap}{r:Rl}(hL:WkLib h):Sv Tryz.prog 5 [str (ZIP r)] h (RetP fun v h'=>Ext h h'/\∃r' am cm as' cs al cl e,v=.tuple ⟨[.agg ⟨rowR r' am cm as' cs al cl⟩,i64 e]⟩/\(ZBc r=0->r'=r/\e=0/\RlAt h' am as' al r)):=by
 unfold ZIP
 by_cases hz:ZBc r=0
 ·rw[if_pos hz]
  refine (ZOt hz hL).ret ?_;rintro v h' ⟨hE,am,cm,as',cs,al,cl,rfl,hR⟩;exact⟨hE,r,am,cm,as',cs,al,cl,0,rfl,fun _=>⟨rfl,rfl,hR⟩⟩
 ·rw[if_neg hz]
  refine (ZPP hL).ret ?_;rintro v h' ⟨rfl,hE⟩;exact⟨hE,⟨[],0,0,0,0,0,0,[],[],[]⟩,none,0,none,0,none,0,6,rfl,fun q=>absurd q hz⟩
abbrev vRow (d:Value×List Nt):List Value:=[d.1]
theorem ZOS {h:Heap}{a:Option Addr}{L:List (List Nt)}(hL:ZAV 1 CatR h a L):∃D:List (Value×List Nt),D.map Prod.snd=L/\TabA vRow 1 h a D/\∀d∈D,CatR h [d.1] d.2:=by
 have hx:∀i:Fin L.length,∃v:Value,(∃b o oa,a=some ⟨b,o,oa⟩/\ZBC h b (o+i*1) 1=some [v])/\CatR h [v] L[i]:=fun i=>by
  obtain⟨b,o,oa,e,row,hr,a',c',er,hs⟩:=hL i i.2;exact⟨.slice a' L[i].length c',⟨b,o,oa,e,by rw[hr,er];rfl⟩,a',c',rfl,hs⟩
 refine⟨List.ofFn fun i:Fin L.length=>(Classical.choose (hx i),L[i]),?_,?_,?_⟩
 ·rw[List.map_ofFn]
  exact List.ofFn_getElem (xs:=L)
 ·intro i hi
  rw[List.length_ofFn] at hi;obtain⟨b,o,oa,e,hr⟩:=(Classical.choose_spec (hx ⟨i,hi⟩)).1;refine⟨b,o,oa,e,_,hr,?_⟩;rw[List.getElem_ofFn]
 ·intro d hd
  rw[List.mem_ofFn] at hd;obtain⟨i,rfl⟩:=hd;exact (Classical.choose_spec (hx i)).2
theorem ZLC {h:Heap}:∀{D:List (Value×List Nt)},(∀d∈D,CatR h [d.1] d.2)->allOne (D.flatMap vRow)=true
 | [],_=>rfl
 | d::D,hD=>by
  obtain⟨a,c,e,-⟩:=hD d List.mem_cons_self;have e1:d.1=.slice a d.2.length c:=by injection e
  have:=ZLC (D:=D) fun x hx=>hD x (List.mem_cons_of_mem _ hx);rw[List.flatMap_cons]
  show allOne ([d.1]++_)=true
  rw[e1];exact this
theorem ZOw {h:Heap}{a:Option Addr}{D:List (Value×List Nt)}(hT:TabA vRow 1 h a D)(hD:∀d∈D,CatR h [d.1] d.2):ZAV 1 CatR h a (D.map Prod.snd):=fun i hi=>by
 rw[List.length_map] at hi;obtain⟨b,o,oa,e1,row,hr,hx⟩:=hT i hi;have hx2:row=[D[i].1]:=hx;refine⟨b,o,oa,e1,row,hr,?_⟩;rw[List.getElem_map,hx2];exact hD _ (List.getElem_mem hi)
theorem ZLx {h:Heap}{b o n:Nat}{row:List Value}(hr:ZBC h b o n=some row):ZBC h b o 0=some []:=by
 unfold ZBC at hr ⊢
 cases hg:h.get b with
 | none=>rw[hg] at hr;cases hr
 | some x =>
  rw[hg] at hr
  cases x with
  | cells vs el op =>
   have:=(ZDJ hr).1
   show cut vs o 0=some []
   rw[ZEA (by omega)];simp
  | ro lim ob =>
   cases ob with
   | cells c _ _ =>
    simp only[rdo] at hr ⊢
    cases hc:cut c.toList o n with
    | none=>rw[hc] at hr;cases hr
    | some l =>
     have:=(ZDJ hc).1;rw[ZEA (n:=0) (by omega)];simp
   | _=>cases hr
  | _=>cases hr
theorem TabA.src0 {α:Type}{enc:α->List Value}{k:Nat}{h:Heap}{b o:Nat}{l:List α}(hT:TabA enc k h (some ⟨b,o,none⟩) l)(h0:ZBC h b o 0=some []):SrcK enc k h (some ⟨b,o,none⟩) l:=⟨hT,fun _=>.inr (.inr ⟨b,o,none,rfl,h0⟩)⟩
theorem ZS9 {h:Heap}{b o:Nat}{D:List (Value×List Nt)}{k:Nat}(hT:TabA vRow 1 h (some ⟨b,o,none⟩) D)(hk:k<D.length):SrcK vRow 1 h (some ⟨b,o+k*1,none⟩) (D.drop k)/\SrcK vRow 1 h (some ⟨b,o,none⟩) (D.take k):=by
 obtain⟨b',o',oa',e,row,hr,-⟩:=hT k hk;cases e;obtain⟨b',o',oa',e,row',hr',-⟩:=hT 0 (by omega);cases e;rw[Nat.zero_mul,Nat.add_zero] at hr';refine⟨TabA.src0 (TabA.from hT k) (ZLx hr),TabA.src0 (ZAV.take hT k) (ZLx hr')⟩
theorem ZMn {L:List (List Nt)}(k:Nat):(L.drop k++L.take k).Perm L:=by
 have:=(List.perm_append_comm (l₁:=L.drop k) (l₂:=L.take k))
 rwa [List.take_append_drop] at this
theorem ZSV {α:Type}{D:List α}{d:α}(k:Nat):(d∈D.drop k++D.take k->d∈D)/\True:=⟨fun h=>(List.mem_append.1 h).elim (fun q=>List.drop_subset _ _ q) fun q=>List.take_subset _ _ q,trivial⟩
theorem ZP2 {L:List (List Nt)}(k:Nat)(h:ZBN L=0):ZBN (L.drop k++L.take k)=0/\ZAO (L.drop k++L.take k).flatten=ZAO L.flatten:=by
 obtain⟨h1,h2,h3⟩:=ZIU h;have hp:=ZMn (L:=L) k;have hs:ZAO (L.drop k++L.take k).flatten=ZAO L.flatten:=ZHU fun x=>hp.flatten.mem_iff;exact⟨ZRD (by rw[hp.length_eq];exact h1) (fun l hl=>h2 l (hp.mem_iff.1 hl)) (by rw[hs];exact h3),hs⟩
theorem Own.add1 {h0 h:Heap}{l:List It}{y:It}(hO:Own h0 h l)(hy:y.p h)(hlo:∀c,y.S c->h0.nx<=c)(hne:∀x∈l,∀c,x.S c->¬y.S c):Own h0 h (y::l):=by
 refine⟨fun z hz=>?_,fun z hz c hc=>?_,List.pairwise_cons.2 ⟨fun z hz c hc hzc=>hne z hz c hzc hc,hO.ap⟩⟩
 ·rcases List.mem_cons.1 hz with rfl|hz
  ·exact hy
  ·exact hO.has z hz
 ·rcases List.mem_cons.1 hz with rfl|hz
  ·exact hlo c hc
  ·exact hO.lo z hz c hc
theorem ZN8 (t:Tk):(ZED t).1.length<=100000000/\(ZED t).2.1.length<=100000000/\(ZED t).2.2.1.length<=100000000:=by
 unfold ZED
 by_cases hz:ZAl t=0
 rotate_left
 ·rw[if_pos hz];exact⟨Nat.zero_le _,Nat.zero_le _,Nat.zero_le _⟩
 rw[if_neg (fun q=>q hz)];have hok:=ZCQ hz;obtain⟨p1,p2,p3,p4⟩:=ZLz hok;obtain⟨q1,q2,q3,q4⟩:=ZJu hok
 split
 ·exact⟨Nat.zero_le _,Nat.le_trans p4 (by decide),Nat.le_trans q4 (by decide)⟩
 ·refine⟨Nat.le_trans (ZIb ZCw _) ?_,Nat.le_trans p4 (by decide),Nat.le_trans q4 (by decide)⟩
  rw[ZJh (ZLu hok)];omega
end Go.Dw
