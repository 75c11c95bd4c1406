/- FC: TopCopied: what is owned; the rows. -/
import Derived.SizedLaws
import Derived.Test.YtcjmpdpgfmjcgaaGreatDoorMG27
import Derived.Test.YtcjmpdpgfmjcgaaGreatDoorMG28
import Derived.Test.YtcjmpdpgfmjcgaaGreatDoorMG22
import Derived.Test.YtcjmpdpgfmjcgaaGreatDoorMG2
import Derived.Test.YtcjmpdpgfmjcgaaGreatDoorMG26
namespace Go.Dw
open Go Go.Dx Go.Proofs
set_option maxRecDepth 100000
theorem rowAt_keep {h h':Heap}{b o n:Nat}{row:List Value}(hk:∀ob,h.get b=some ob->h'.get b=some ob)(hr:rowAt h b o n=some row):rowAt h' b o n=some row:=by
 unfold rowAt at hr ⊢
 cases hg:h.get b with
 | none=>rw[hg] at hr;cases hr
 | some ob=>rw[hk ob hg];rw[hg] at hr;exact hr
def tsI (E:List Ent):It where
 S:=fun c=>∃e∈E,e.x.tests≠[]/\∃o sp,e.ta=some ⟨c,o,sp⟩
 p:=fun h=>∀e∈E,RowsAt 3 TestR h e.ta e.x.tests
 loc:=fun hk hp e he i hi=>by
  obtain⟨b,o,oa,ea,row,hr,hR⟩:=hp e he i hi
  exact⟨b,o,oa,ea,row,rowAt_keep (fun ob hg=>hk b ob ⟨e,he,(fun hn=>by rw[hn] at hi;exact absurd hi (Nat.not_lt_zero _)),o,oa,ea⟩ hg) hr,hR⟩
 ex:=fun {h c} hp hc=>by
  obtain⟨e,he,hne,o,sp,ea⟩:=hc
  obtain⟨b,o',oa,ea',row,hr,_⟩:=hp e he 0 (List.length_pos_iff.2 hne)
  rw[ea] at ea'
  cases ea'
  unfold rowAt at hr
  cases hg:h.get c with
  | none=>rw[hg] at hr;cases hr
  | some ob=>exact⟨ob,rfl⟩
def tC (y:DTest):List Value:=[i64 y.day,i64 y.grade,i64 y.error]
theorem tRows {h0 h:Heap}{v:Value}{T:List DTest}(hF:FreshSl h0 h v 91 3 (T.flatMap tC) T.length):∃a c,v=.slice a T.length c/\RowsAt 3 TestR h a T/\∀b o sp,a=some ⟨b,o,sp⟩->blkOf v=some b:=by
 rcases hF with ⟨rfl,_,h0⟩|⟨b,sp,op,rfl,hg,_⟩
 ·rw[h0]
  exact⟨none,0,rfl,(fun i hi=>absurd hi (by omega)),fun b o sp e=>nomatch e⟩
 ·refine⟨some ⟨b,0,sp⟩,T.length,rfl,fun i hi=>⟨b,0,sp,rfl,_,rowAt_cells hg ?_,rfl⟩,fun b' o sp' e=>by cases e;rfl⟩
  rw[Nat.zero_add]
  exact cut_flat (f:=tC) (k:=3) hi fun _ _=>rfl
theorem EntOk.rowLen {h0:Heap}{t:Task}{e:Ent}(ok:EntOk h0 t e):e.row.length=5/\e.xrow.length=13:=by
 obtain⟨a,c,e1,_⟩:=ok.row
 obtain⟨rr,ad,cd,ct,hr,e2,_⟩:=ok.xrow
 obtain⟨ah,ch,aw,cw,g0,g1,g2,_,rfl,_,_⟩:=hr
 rw[e1,e2]
 exact⟨rfl,rfl⟩
theorem uRows {h0 h:Heap}{t:Task}{v:Value}{E:List Ent}(hF:FreshSl h0 h v 63 5 (E.flatMap Ent.row) E.length)(ok:∀e∈E,EntOk h0 t e)(he:Ext h0 h):∃a c,v=.slice a (E.map Ent.r).length c/\RowsAt 5 ReelAt h a (E.map Ent.r):=by
 rcases hF with ⟨rfl,_,h1⟩|⟨b,sp,op,rfl,hg,_⟩
 ·rw[List.length_map,h1]
  exact⟨none,0,rfl,fun i hi=>absurd hi (by rw[List.length_map];omega)⟩
 ·refine⟨some ⟨b,0,sp⟩,E.length,by rw[List.length_map],fun i hi=>?_⟩
  have hi':i<E.length:=by rw[List.length_map] at hi;exact hi
  refine⟨b,0,sp,rfl,E[i].row,rowAt_cells hg ?_,?_⟩
  ·rw[Nat.zero_add]
   exact cut_flat (f:=Ent.row) (k:=5) hi' fun e he=>(ok e he).rowLen.1
  ·rw[List.getElem_map]
   exact (ok _ (List.getElem_mem hi')).row.ext he
theorem xRows {h0 h:Heap}{t:Task}{v:Value}{E:List Ent}{k:Nat}(hF:FreshSl h0 h v 54 13 (E.flatMap Ent.xrow) E.length)(ok:∀e∈E,EntOk h0 t e)(hk:k<E.length):∃b sp,v=.slice (some ⟨b,0,sp⟩) E.length E.length/\rowAt h b (0+k*13) 13=some E[k].xrow:=by
 obtain⟨b,sp,op,rfl,hg,_⟩:=hF.blk (by omega)
 refine⟨b,sp,rfl,rowAt_cells hg ?_⟩
 rw[Nat.zero_add]
 exact cut_flat (f:=Ent.xrow) (k:=13) hk fun e he=>(ok e he).rowLen.2
theorem EntOk.at {h0 h:Heap}{t:Task}{e:Ent}(ok:EntOk h0 t e)(he:Ext h0 h)(ht:RowsAt 3 TestR h e.ta e.x.tests):DTaskAt h e.xrow e.x:=by
 obtain⟨rr,ad,cd,ct,hr,e2,hd⟩:=ok.xrow
 exact⟨rr,ad,cd,e.ta,ct,hr.ext he,e2,RowsAt.ext (R:=DayR) (fun x _=>x) hd he,ht⟩
theorem Own.lt {h0 h:Heap}{l:List It}(hO:Own h0 h l)(hw:WF h):∀x∈l,∀c,x.S c->c<h.nx:=fun x hx c hc=>by
 obtain⟨o,ho⟩:=x.ex (hO.has x hx) hc
 exact hw _ _ ho
theorem Own.other {h0 h:Heap}{l:List It}{b:Nat}(o:AO)(hO:Own h0 h l)(hne:∀x∈l,∀c,x.S c->c≠b):Own h0 (h.set b o) l :=
 ⟨fun x hx=>x.loc (fun c ob hc hg=>(Upd.mk' h b o).get (hne x hx c hc) hg) (hO.has x hx),hO.lo,hO.ap⟩
section
variable {P:Program}{fr:Fr}{m:Mem}{ds:List ADef}{h:Heap}{ops:Array Oper}{d:Option Tmp}{ty:TypeId}{pos:String}{af:Array Edge}{gu:Option (Nat×Bool)}{K Kp:Value->List ADef->Heap->Prop}
theorem W1_appendR {h0:Heap}{I:List It}{n1:Nat}{o:Oper}{tS tX el:TypeId}{sz by':Nat}{c:Call}{s x:Operand}{v xv:Value}{cs l:List Value}{n k:Nat}{ts:List TypeId}(ho:o=⟨d,.call c,ty,pos,af,gu⟩)(hw0:WF h0)(he0:Ext h0 h)(hg:gk ops.toList m gu=some true)(hc:c.callee=.builtin .append)(hargs:c.args=#[s,x])(hat:c.argTypes.toList=tS::tX::ts)(hS:P.underlying tS=some (.slice el))(hE:Elm P el sz by')
  (hs:opk h m s=some v) (hx:opk h m x=some xv) (hO:Own h0 h (slI h0 v el sz cs n::I)) (hsrc:asrc P el sz tX xv h=some (k,l)) (hl:l.length=k*sz) (h1:allOne l=true)
  (hb:(2*(n+k)+192)*by'<=281474976710656) (hb2:n+k<281474976710656) (hn1:∀x∈slI h0 v el sz cs n::I,∀c,x.S c->c≠n1) (hn2:n1<h.nx)
  (hk:∀v' h',Own h0 h' (slI h0 v' el sz (cs++l) (n+k)::I)->Ext h0 h'->(∀x∈slI h0 v' el sz (cs++l) (n+k)::I,∀c,x.S c->c≠n1)->n1<h'.nx->K v' ds h'):W1 P fr ops o m ds h K Kp :=
 W1_wf fun hw=>W1_appendF ho hw0 hw he0 hg hc hargs hat hS hE hs hx hO.p1 hsrc hl h1 hb hb2 fun v' h' hF hE' hK hx' hv=>hk v' h' (hO.putSl hw he0 hF hE' hK hx' hv) hE' (fun y hy c hc=>by
  rcases List.mem_cons.1 hy with rfl|hy
  ·rcases hv with g|⟨b,g,hb⟩
   ·exact hn1 _ List.mem_cons_self c (by show blkOf v=some c;rw[<-g];exact hc)
   ·rw[show blkOf v'=some c from hc] at g
    cases g;omega
  ·exact hn1 y (List.mem_cons_of_mem _ hy) c hc) (by omega)
end
end Go.Dw
/- FD: TopCopied: its contract, for any workshop and tasks. -/
namespace Go.Dw
open Go Go.Dx Go.Proofs
set_option maxRecDepth 100000
theorem fill54 (x0 x1 x2 x3 x4 x5 x6 x7 x8 x9 x10 x11 x12:Value):Instr.fill (fun i=>some (i*13,13)) (rep 1 (Value.cells (.agg ⟨[.slice none 0 0,.slice none 0 0,i64 0,i64 0,i64 0,i64 0,i64 0,i64 0,i64 0,.slice none 0 0,i64 0,i64 0,.slice none 0 0]⟩)).toList).toArray [(0,.agg ⟨[x0,x1,x2,x3,x4,x5,x6,x7,x8,x9,x10,x11,x12]⟩)]=some ⟨[x0,x1,x2,x3,x4,x5,x6,x7,x8,x9,x10,x11,x12]⟩:=by kernel_rfl
theorem Own.ne {h0 h:Heap}{l:List It}{n1:Nat}(hO:Own h0 h l)(hw:WF h)(hn:h.nx<=n1):∀x∈l,∀c,x.S c->c≠n1:=fun x hx c hc=>by
 have:=hO.lt hw x hx c hc
 omega
set_option maxHeartbeats 16000000 in
theorem topCopied_sv {tc:List Value}{t:Task}{aL:Option Addr}{cL:Nat}{L:List DTask}{h:Heap}(ht:TaskAt h tc t)(hf:t.Fit)(hL:RowsAt 13 DTaskAt h aL L)(hLf:∀x∈L,x.Fit)(hLn:Len L)(hLt:∀x∈L,x.tests.length*24<=140737488351232) :
  Sv Tryz.prog 18 [.agg ⟨tc⟩,.slice aL L.length cL] h (RetP fun v h'=>v=.bool true/\Ext h h'):=by
 have ht0:=ht
 obtain⟨am,cm,ar,cr,rfl,hM,hR⟩:=ht
 have hLn':L.length<9223372036854775808:=hLn
 refine Sv_enter Tryz.func18 rfl (by rw[Tryz.ntmps18];rfl) ?_;show Wc Tryz.prog ⟨18,258,none⟩ _ _ _ _ _
 refine zy ?_
 refine Wo_box rfl rfl rfl fun h1 hE1 hW1 hg2 hn1=>?_
 generalize h.nx=b2 at *
 refine zy ?_
 refine Wo_callE rfl rfl rfl rfl rfl Bod.h rfl rfl (refCheck_sv (ht0.ext hE1) hf) fun h2 hE2=>?_
 replace hg2:=hE2.get hg2
 have hE:=hE1.trans hE2
 clear hE1 hE2 hW1 hn1
 clear h1
 refine Wo_wf fun hw2=>?_
 refine zy ?_
 by_cases c0:errS t=0
 rotate_left
 ·refine Wo_do rfl rfl rfl rfl (A_tt (show ¬(checkS t).2.2=0 from c0) (A_neq rfl rfl)) ?_
  refine zy ?_
  refine Wo_callV rfl rfl rfl rfl rfl Bod.h rfl rfl (awake_sv _) ?_
  refine zy ?_
  exact Wc_ret (Lv_ret rfl ⟨rfl,hE⟩)
 refine Wo_do rfl rfl rfl rfl (A_ff (show ¬¬(checkS t).2.2=0 from fun x=>x c0) (A_neq rfl rfl)) ?_
 refine zy ?_
 by_cases cl:L.length=0
 ·refine Wo_do rfl rfl rfl rfl (A_tt (show ((L.length:Nat):Int)=0 by omega) (A_eql rfl rfl)) ?_
  refine zy ?_
  refine Wo_callV rfl rfl rfl rfl rfl Bod.h rfl rfl (awake_sv _) ?_
  refine zy ?_
  exact Wc_ret (Lv_ret rfl ⟨rfl,hE⟩)
 refine Wo_do rfl rfl rfl rfl (A_ff (show ¬((L.length:Nat):Int)=0 by omega) (A_eql rfl rfl)) ?_
 have hNE:=errS_iff.1 c0
 have hfr:=hNE.first
 have hrl:=hNE.rs
 refine zy ?_
 refine Wo_allocStore rfl rfl Zr.h Tsz.h rfl (fun _=>rfl) rfl rfl rfl fun h3 hE3 hW3 hg8 hn3=>?_
 have hO3:=(Own.nil h2 h2).newCe hw2 (Nat.le_refl _) hE3 hg8 (Nat.le_refl _)
 generalize h2.nx=b8 at *
 clear hg8 hn3 hW3
 refine zy ?_
 refine Wo_storeO hw2 hE3 rfl Tsz.h rfl rfl hO3 rfl rfl rfl fun h4 hw4 hO4 hE4=>?_
 replace hO4:Own h2 h4 [ceI b8 [i64 t.first,i64 t.days,.slice am t.machines.length cm,.slice none 0 0] 25 false,slI h2 (.slice none 0 0) 63 5 (([]:List Ent).flatMap Ent.row) 0,slI h2 (.slice none 0 0) 54 13 (([]:List Ent).flatMap Ent.xrow) 0,tsI []] :=
  ((((hO4.new (y:=tsI []) hw4 hE4.2.1 (Ext.refl _) (fun _ hp=>nomatch hp) (fun c hc=>by obtain⟨p,hp,_⟩:=hc;cases hp)).nilSl 54 13).nilSl 63 5).shuf (ceI 0 [] 0 false) [0,1,2,3] [3,0,1,2] (by decide) rfl)
 clear hO3 hE3
 clear h3
 refine zy ?_
 refine Wc_loop (fun (i:Nat) m ds h'=>ds=[]/\i<=t.reels.length/\Ext h2 h'/\∃(vU vO:Value) (E:List Ent),(∀e∈E,EntOk h2 t e)/\(E.map fun e=>e.r.name).Sublist ((t.reels.take i).map Reel.name)/\E.length<=i ∧
   Own h2 h' [ceI b8 [i64 t.first,i64 t.days,.slice am t.machines.length cm,vU] 25 false,slI h2 vU 63 5 (E.flatMap Ent.row) E.length,slI h2 vO 54 13 (E.flatMap Ent.xrow) E.length,tsI E]/\AllK m [(1,.slice aL L.length cL),(2,ptr b2),(8,ptr b8),(9,vO),(10,i64 (i:Nat))]) (fun i=>t.reels.length-i) 0 ?_ ?_
 ·exact⟨rfl,Nat.zero_le _,hE4,_,_,[],(fun _ hp=>nomatch hp),List.Sublist.slnil,Nat.le_refl _,hO4,rfl,rfl,rfl,rfl,rfl,trivial⟩
 clear hO4 hE4 hw4
 clear h4
 rintro i m ds h5 ⟨rfl,hi,hE5,vU,vO,E,hok,hsub,hEl,hO5,hall⟩
 have hg25:=hE5.get hg2
 have hE05:=hE.trans hE5
 refine Wc_wf fun hw5=>?_
 refine Wc.le ?_ (Le.kn hall)
 refine zy ?_
 refine Wo_dec rfl rfl rfl rfl (A_lss rfl rfl) (fun hip=>?_) (fun hip=>?_)
 rotate_left
 ·have hii:i=t.reels.length:=by omega
  subst hii
  rw[List.take_length] at hsub
  have hNU:=u_noErr hNE hok hsub
  have hUF:=u_fit hf hok (by omega)
  have h0U:=errS_iff.2 hNU
  have hV:=valid_of h0U
  have hsum:=plan_sum hV h0U
  have hpl:=fun x hx=>plan_place hV (x:=x) hx
  have hPS:=planS_ok h0U
  have k8:h5.get b8=_:=hO5.at 0 rfl
  obtain⟨aU,cU,rfl,hUR⟩:=uRows (show FreshSl h2 h5 vU 63 5 (E.flatMap Ent.row) E.length from hO5.at 1 rfl) hok hE5
  have hTU:TaskAt h5 [i64 t.first,i64 t.days,.slice am t.machines.length cm,.slice aU (E.map Ent.r).length cU] (uT t E):=⟨am,cm,aU,cU,rfl,RowsAt.ext (R:=MachAt) (fun x y=>MachAt.ext x y) hM hE05,hUR⟩
  refine zy ?_
  refine Wo_callr rfl rfl rfl rfl rfl Bod.h rfl rfl (rescuePlan_sv hTU hUF) ?_
  rintro _ h6 ⟨⟨aT,aV,rfl,hTn,_⟩,hE6⟩
  rw[hPS] at hTn
  rw[hPS]
  have hsum':(turnsG (uT t E) (keptS (uT t E))).length+(lateL (uT t E)).length=(E.map Ent.r).length:=hsum
  have hEm:(E.map Ent.r).length=E.length:=List.length_map _
  generalize turnsG (uT t E) (keptS (uT t E))=T at *
  generalize lateL (uT t E)=Lt at *
  have hTn:TurnsAt h6 aT T:=hTn
  have k86:=hE6.get k8
  have hO6:=hO5.ext hE6
  have hE26:=hE5.trans hE6
  have hE06:=hE.trans hE26
  have hTI:∀e∈E,RowsAt 3 TestR h6 e.ta e.x.tests:=hO6.at 3 rfl
  have hF54:FreshSl h2 h6 vO 54 13 (E.flatMap Ent.xrow) E.length:=hO6.at 2 rfl
  refine zy ?_
  refine Wo_do rfl rfl rfl rfl (A_ff (fun x=>x rfl) (A_neq rfl rfl)) ?_
  refine zy ?_
  refine Wo_do rfl rfl rfl rfl (A_ad (a:=((T.length:Nat):Int)) (b:=((Lt.length:Nat):Int)) rfl rfl (by omega) (by omega)) ?_
  refine zy ?_
  refine Wo_do rfl rfl rfl rfl (A_ff (show ¬¬((T.length:Nat):Int)+((Lt.length:Nat):Int)=(((E.map Ent.r).length:Nat):Int) by omega) (A_neq rfl rfl)) ?_
  refine zy ?_
  refine Wc_loop (fun (j:Nat) m ds h'=>ds=[]/\j<=T.length/\Ext h6 h'/\AllK m [(9,vO),(19,.slice aT T.length T.length),(21,i64 (j:Nat))]) (fun j=>T.length-j) 0 ?_ ?_
  ·exact⟨rfl,Nat.zero_le _,Ext.refl _,rfl,rfl,rfl,trivial⟩
  rintro j m ds h7 ⟨rfl,hj,hE7,hall⟩
  refine Wc.le ?_ (Le.kn hall)
  refine zy ?_
  refine Wo_dec rfl rfl rfl rfl (A_lss rfl rfl) (fun hjp=>?_) (fun hjp=>?_)
  rotate_left
  ·refine zy ?_
   refine Wo_callV rfl rfl rfl rfl rfl Bod.h rfl rfl (awake_sv _) ?_
   refine zy ?_
   exact Wc_ret (Lv_ret rfl ⟨rfl,(hE06.trans hE7)⟩)
  have hjl:j<T.length:=by omega
  obtain⟨k,hk,hkl,p1,p2⟩:=hpl T[j] (List.getElem_mem hjl)
  have hkE:k<E.length:=by
   have:k<(E.map Ent.r).length:=hkl
   omega
  have hrk:(uT t E).reels[k]=E[k].r:=by exact List.getElem_map _
  have hrd:=(hV.rs _ (List.getElem_mem hkl)).2.2.2.1.1
  have hrd2:=(hV.rs _ (List.getElem_mem hkl)).2.2.2.1.2.2
  have hlast:=hNE.last
  have hfd:(uT t E).first=t.first:=rfl
  have hdd:(uT t E).days=t.days:=rfl
  rw[hrk] at p1 p2 hrd hrd2
  obtain⟨bT,oT,oaT,rfl,_,hc0,_,hc2⟩:=TurnsAt.at hTn hjl
  rw[hk] at hc0
  have hc0':=hE7.cell hc0
  have hc2':=hE7.cell hc2
  generalize T[j]=tu at *
  have ok:=hok _ (List.getElem_mem hkE)
  have hDTk:=ok.at hE26 (hTI _ (List.getElem_mem hkE))
  obtain⟨bO,spO,rfl,hxr⟩:=xRows hF54 hok hkE
  generalize E[k]=en at *
  obtain⟨rr,ad,cd,ats,ct,hru,exr,_,_⟩:=id hDTk
  obtain⟨ah,ch,aw,cw,g0,g1',g2',_,rfl,_,_⟩:=hru
  rw[exr] at hxr hDTk
  have hxr7:=hE7.row hxr
  refine zy ?_
  refine Wo_do rfl rfl rfl rfl (A_ix Und.h Tsz.h rfl rfl) ?_
  refine zy ?_
  refine Wo_do rfl rfl rfl rfl (A_ff (show ¬((k:Nat):Int)<0 by omega) (A_lss rfl rfl)) ?_
  refine zy ?_
  refine Wo_do rfl rfl rfl rfl (A_ff (show ¬((E.length:Nat):Int)<=((k:Nat):Int) by omega) (A_geq rfl rfl)) ?_
  refine zy ?_
  refine Wo_do rfl rfl rfl rfl (A_ix Und.h Tsz.h rfl rfl) ?_
  refine zy ?_
  refine Wo_callr rfl rfl rfl rfl rfl Bod.h rfl rfl (levelsP_sv (hDTk.ext hE7) ok.xfit) ?_
  rintro w h8 ⟨hw,hE8⟩
  rcases hw with ⟨c,_⟩|⟨_,aW,a3,c3,f,B,rfl,hRl,hBL,_,_⟩
  ·exact absurd ok.xerr c
  have hfx:=ok.first
  obtain⟨n,hn,hnl,hlv⟩:=top_level ok hBL (day:=tu.day) (by omega) p2
  have hE78:=hE7.trans hE8
  have hc28:=hE78.cell hc2
  have hxf8:=cell_of_row (k:=8) (hE78.row hxr) rfl
  have hxl8:=cell_of_row (k:=7) (hE78.row hxr) rfl
  obtain⟨bW,oW,oaW,rfl,_,_,hch⟩:=SpR.at hRl (k:=n) (by rw[knownL_len];omega)
  have hkn:(knownL en.x f)[n]'(by rw[knownL_len];omega)=f n:=by simp only[knownL,List.getElem_map,List.getElem_range]
  rw[hkn] at hch
  refine zy ?_
  refine Wc_draw hmix [0,0,3,7,15,0,0,96,224,480,1023,2047] [0,1,2,3,4,5,6,7,8,9,10] (some 11) [([],none)] (by kernel_rfl) (by kernel_rfl) ?_
  refine z_m ?_;refine z_m ?_;refine Wp_pure rfl rfl rfl rfl rfl (fun _=>A_ix (k:=j) Und.h Tsz.h rfl rfl hjl) ?_;refine z_f ?_;refine z_l ?_;refine z_m ?_;refine z_m ?_;refine Wp_pure rfl rfl rfl rfl rfl (fun _=>A_ix (k:=k) Und.h Tsz.h rfl rfl hkE) ?_;refine z_f ?_;refine z_l ?_;refine z_u ?_
  refine Wp_eff [0,1,2,3,4,5,6,7,8,9,10] (by kernel_rfl) rfl (Stl_nil rfl) rfl nb rfl (W1_op rfl rfl (A_assign rfl) ?_)
  refine Wp_end (Stl_nil rfl) nb' ?_
  rw[hn]
  refine zy ?_
  refine Wc_draw hmix [0,1,3,7,15,31,63,127,127,383,1023,2047,4095,8191,8191,32767,65535,131071,8191,8191,794623,1843199,3940351,8134655,16777215,33554431] [0,1,2,3,4,5,6,7,8,9,10,11,12,13,14,15,16,17,18,19,20,21,22,23,24,25] none [] (by kernel_rfl) (by kernel_rfl) ?_
  refine z_m ?_;refine Wp_pure rfl rfl rfl rfl rfl (fun _=>A_ff (fun x=>x rfl) (A_neq rfl rfl)) ?_;refine z_m ?_;refine g_m ?_
  first|refine Wp_off rfl rfl rfl rfl ?_|refine Wp_pure rfl rfl rfl rfl rfl (fun _=>A_ff (show ¬((n:Nat):Int)<0 by omega) (A_lss rfl rfl)) ?_
  refine z_p ?_;refine z_m ?_;refine g_m ?_;refine g_m ?_;refine g_c ?_
  first|refine Wp_off rfl rfl rfl rfl ?_|refine Wp_pure rfl rfl rfl rfl rfl (fun _=>A_ff (show ¬((en.x.days.length+1:Nat):Int)<=((n:Nat):Int) by omega) (A_geq rfl rfl)) ?_
  refine z_p ?_;refine z_m ?_;refine g_m ?_;refine g_m ?_
  first|refine Wp_off rfl rfl rfl rfl ?_|refine Wp_pure rfl rfl rfl rfl rfl (fun _=>A_ix (k:=n) Und.h Tsz.h rfl rfl (by omega)) ?_
  refine g_f ?_;refine g_l ?_;refine g_m ?_;refine g_m ?_
  first|refine Wp_off rfl rfl rfl rfl ?_|refine Wp_pure rfl rfl rfl rfl rfl (fun _=>A_ix (k:=k) Und.h Tsz.h rfl rfl hkE) ?_
  refine g_f ?_;refine g_f ?_;refine g_l ?_
  first|refine Wp_off rfl rfl rfl rfl ?_|refine Wp_pure rfl rfl rfl rfl rfl (fun _=>A_ff (show ¬en.x.rule.lost<=(f n).hi by omega) (A_geq rfl rfl)) ?_
  refine z_p ?_
  refine Wp_end (Stl_nil rfl) nb' ?_
  refine zy ?_
  exact⟨j+1,(by show T.length-(j+1)<T.length-j;omega),rfl,hjl,hE78,rfl,rfl,rfl,trivial⟩
 have hir:i<t.reels.length:=by omega
 have hsubN:((t.reels.take i).map Reel.name).Sublist ((t.reels.take (i+1)).map Reel.name):=by
  rw[take_succ hir,List.map_append]
  exact List.sublist_append_left _ _
 obtain⟨k,hk,ek⟩:∃k:Nat,k<L.length/\((i:Nat):Int).tmod ((L.length:Nat):Int)=(k:Int):=⟨i % L.length,Nat.mod_lt _ (by omega),rfl⟩
 refine zy ?_
 refine Wo_do rfl rfl rfl rfl (A_rem rfl rfl (by omega)) ?_
 rw[ek]
 obtain⟨bL,oL,oaL,rfl,xr,hxr0,hx⟩:=hL k hk
 have hxr:=hE05.row hxr0
 have hxf:=hLf _ (List.getElem_mem hk)
 have hxt:=hLt _ (List.getElem_mem hk)
 generalize L[k]=x at *
 obtain⟨rr,ad,cd,ats,ct,hru,rfl,hDs,hTs⟩:=hx
 have hru0:=hru
 obtain⟨ah,ch,aw,cw,g0,g1',g2',hge,rfl,_,_⟩:=hru
 refine zy ?_
 refine Wo_do rfl rfl rfl rfl (A_ix Und.h Tsz.h rfl rfl) ?_
 refine zy ?_
 refine Wo_allocStore rfl rfl Zr.h Tsz.h rfl (fun _=>rfl) rfl rfl rfl fun h6 hE6 hW6 hg11 hn6=>?_
 have hO6:=hO5.newCe hw5 hE5.2.1 hE6 hg11 (Nat.le_refl _)
 replace hE5:=hE5.trans hE6
 replace hg25:=hE6.get hg25
 generalize h5.nx=b11 at *
 clear hE6 hn6 hxr hw5 hO5 hE05
 clear h5
 refine zy ?_
 refine Wo_dec rfl rfl rfl rfl (A_gtr rfl rfl) (fun a1=>?_) (fun a1=>?_)
 ·refine zy ?_
  exact⟨i+1,(by show t.reels.length-(i+1)<t.reels.length-i;omega),rfl,hir,hE5,vU,vO,E,hok,hsub.trans hsubN,Nat.le_succ_of_le hEl,hO6.tail,rfl,rfl,rfl,rfl,rfl,trivial⟩
 refine zy ?_
 refine Wo_dec rfl rfl rfl rfl (A_lss rfl rfl) (fun a2=>?_) (fun a2=>?_)
 ·refine zy ?_
  exact⟨i+1,(by show t.reels.length-(i+1)<t.reels.length-i;omega),rfl,hir,hE5,vU,vO,E,hok,hsub.trans hsubN,Nat.le_succ_of_le hEl,hO6.tail,rfl,rfl,rfl,rfl,rfl,trivial⟩
 refine zy ?_
 refine Wo_dec rfl rfl rfl rfl (A_gtr rfl rfl) (fun a3=>?_) (fun a3=>?_)
 ·refine zy ?_
  exact⟨i+1,(by show t.reels.length-(i+1)<t.reels.length-i;omega),rfl,hir,hE5,vU,vO,E,hok,hsub.trans hsubN,Nat.le_succ_of_le hEl,hO6.tail,rfl,rfl,rfl,rfl,rfl,trivial⟩
 have hE06:=hE.trans hE5
 refine zy ?_
 refine Wc_loop (fun (j:Nat) m ds h'=>ds=[]/\h6=h'/\j<=x.tests.length/\(∀y∈x.tests.take j,x.first<=y.day/\y.day<=x.first+x.days.length)/\AllK m [(1,.slice (some ⟨bL,oL,oaL⟩) L.length cL),(2,ptr b2),(8,ptr b8),(9,vO),(10,i64 (i:Nat)),(11,ptr b11),(12,i64 (j:Nat))]) (fun j=>x.tests.length-j) 0 ?_ ?_
 ·exact⟨rfl,rfl,Nat.zero_le _,(fun _ hy=>nomatch hy),rfl,rfl,rfl,rfl,rfl,rfl,rfl,trivial⟩
 rintro j m ds _ ⟨rfl,rfl,hj,hdays,hall⟩
 refine Wc.le ?_ (Le.kn hall)
 refine zy ?_
 refine Wo_dec rfl rfl rfl rfl (A_lss rfl rfl) (fun hjp=>?_) (fun hjp=>?_)
 ·have hjl:j<x.tests.length:=by omega
  have hyf:=hxf.testsF _ (List.getElem_mem hjl)
  obtain⟨bT,oT,oaT,rfl,_,hday0,_⟩:=TestR.at (RowsAt.ext (R:=TestR) (fun x _=>x) hTs hE06) hjl
  have hts:=take_succ hjl
  generalize x.tests[j]=y at *
  refine zy ?_
  by_cases d1:y.day<x.first
  ·refine Wc_draw hmix [0,1,0,7,15,31,0,64,255,511,1023,2047,1023,8191,16383,32767,1023,66559,1023,263167,787455,2032639,4194303,8388607] [0,1,2,3,4,5,6,7,8,9,10,11,12,13,14,15,16,17,18,19,20,21,22,23] none [] (by kernel_rfl) (by kernel_rfl) ?_
   refine z_f ?_;refine z_l ?_;refine z_m ?_;refine z_i ?_;refine z_f ?_;refine z_l ?_;refine z_f ?_;refine z_l ?_;refine Wp_pure rfl rfl rfl rfl rfl (fun _=>A_tt d1 (A_lss rfl rfl)) ?_;refine z_m ?_;refine g_f ?_;refine g_l ?_;refine g_m ?_;refine g_i ?_;refine g_f ?_;refine g_l ?_;refine g_f ?_;refine g_l ?_;refine g_f ?_;refine g_l ?_;refine g_c ?_;refine g_y ?_;refine z_o ?_;refine z_p ?_
   refine Wp_end (Stl_nil rfl) nb' ?_
   refine zy ?_
   refine Wo_callV rfl rfl rfl rfl rfl Bod.h rfl rfl (awake_sv _) ?_
   refine zy ?_
   exact Wc_ret (Lv_ret rfl ⟨rfl,hE06⟩)
  by_cases d2:x.first+x.days.length<y.day
  ·refine Wc_draw hmix [0,1,0,7,15,31,0,64,255,511,1023,2047,1023,8191,16383,32767,1023,66559,1023,263167,787455,2032639,4194303,8388607] [0,1,2,3,4,5,6,7,8,9,10,11,12,13,14,15,16,17,18,19,20,21,22,23] none [] (by kernel_rfl) (by kernel_rfl) ?_
   refine z_f ?_;refine z_l ?_;refine z_m ?_;refine z_i ?_;refine z_f ?_;refine z_l ?_;refine z_f ?_;refine z_l ?_;refine Wp_pure rfl rfl rfl rfl rfl (fun _=>A_ff d1 (A_lss rfl rfl)) ?_;refine z_m ?_;refine g_f ?_;refine g_l ?_;refine g_m ?_;refine g_i ?_;refine g_f ?_;refine g_l ?_;refine g_f ?_;refine g_l ?_;refine g_f ?_;refine g_l ?_;refine g_c ?_;refine g_y ?_
   first|refine Wp_off rfl rfl rfl rfl ?_|refine Wp_pure rfl rfl rfl rfl rfl (fun _=>A_tt d2 (A_gtr rfl rfl)) ?_
   refine z_p ?_
   refine Wp_end (Stl_nil rfl) nb' ?_
   refine zy ?_
   refine Wo_callV rfl rfl rfl rfl rfl Bod.h rfl rfl (awake_sv _) ?_
   refine zy ?_
   exact Wc_ret (Lv_ret rfl ⟨rfl,hE06⟩)
  refine Wc_draw hmix [0,1,0,7,15,31,0,64,255,511,1023,2047,1023,8191,16383,32767,1023,66559,1023,263167,787455,2032639,4194303,8388607] [0,1,2,3,4,5,6,7,8,9,10,11,12,13,14,15,16,17,18,19,20,21,22,23] none [] (by kernel_rfl) (by kernel_rfl) ?_
  refine z_f ?_;refine z_l ?_;refine z_m ?_;refine z_i ?_;refine z_f ?_;refine z_l ?_;refine z_f ?_;refine z_l ?_;refine Wp_pure rfl rfl rfl rfl rfl (fun _=>A_ff d1 (A_lss rfl rfl)) ?_;refine z_m ?_;refine g_f ?_;refine g_l ?_;refine g_m ?_;refine g_i ?_;refine g_f ?_;refine g_l ?_;refine g_f ?_;refine g_l ?_;refine g_f ?_;refine g_l ?_;refine g_c ?_;refine g_y ?_
  first|refine Wp_off rfl rfl rfl rfl ?_|refine Wp_pure rfl rfl rfl rfl rfl (fun _=>A_ff d2 (A_gtr rfl rfl)) ?_
  refine z_p ?_
  refine Wp_end (Stl_nil rfl) nb' ?_
  refine zy ?_
  refine⟨j+1,(by show x.tests.length-(j+1)<x.tests.length-j;omega),rfl,rfl,hjl,fun z hz=>?_,rfl,rfl,rfl,rfl,rfl,rfl,rfl,trivial⟩
  rw[hts] at hz
  rcases List.mem_append.1 hz with g|g
  ·exact hdays z g
  ·rw[List.mem_singleton.1 g];omega
 have hjj:j=x.tests.length:=by omega
 subst hjj
 rw[List.take_length] at hdays
 clear hjp
 have hsf:=shift_fit (first:=t.first) hxf hfr.1 hfr.2 (by omega) (by omega) (by omega) hdays
 refine zy ?_
 refine Wc_loop (fun (j:Nat) m ds h'=>ds=[]/\j<=x.tests.length/\Ext h2 h'/\∃v13,Own h2 h' [slI h2 v13 91 3 (((shiftD t.first x).tests.take j).flatMap tC) j,ceI b11 [.slice ah x.rule.heat.length ch,.slice aw x.rule.wet.length cw,i64 x.rule.own,i64 x.rule.feed,i64 g0,i64 g1',i64 g2',i64 x.rule.lost,i64 x.first,.slice ad x.days.length cd,i64 x.start.lo,i64 x.start.hi,.slice ats x.tests.length ct] 54 false,ceI b8 [i64 t.first,i64 t.days,.slice am t.machines.length cm,vU] 25 false,slI h2 vU 63 5 (E.flatMap Ent.row) E.length,slI h2 vO 54 13 (E.flatMap Ent.xrow) E.length,tsI E]/\AllK m [(1,.slice (some ⟨bL,oL,oaL⟩) L.length cL),(2,ptr b2),(8,ptr b8),(9,vO),(10,i64 (i:Nat)),(11,ptr b11),(13,v13),(14,i64 (j:Nat))]) (fun j=>x.tests.length-j) 0 ?_ ?_
 ·exact⟨rfl,Nat.zero_le _,hE5,_,hO6.nilSl 91 3,rfl,rfl,rfl,rfl,rfl,rfl,rfl,rfl,trivial⟩
 clear hO6 hE5 hg11 hE06 hall hg25 hW6
 clear h6 m
 rintro j m ds h6 ⟨rfl,hj,hE6,v13,hO6,hall⟩
 refine Wc_wf fun hw6=>?_
 have hE06:=hE.trans hE6
 have hg26:=hE6.get hg2
 have k11:h6.get b11=_:=hO6.at 1 rfl
 refine Wc.le ?_ (Le.kn hall)
 refine zy ?_
 refine Wo_dec rfl rfl rfl rfl (A_lss rfl rfl) (fun hjp=>?_) (fun hjp=>?_)
 ·have hjl:j<x.tests.length:=by omega
  have hdy:=hdays _ (List.getElem_mem hjl)
  have hts:(shiftD t.first x).tests.take (j+1)=(shiftD t.first x).tests.take j++[shTest x.first t.first x.tests[j]]:=by
   rw[take_succ (show j<(shiftD t.first x).tests.length by show j<(x.tests.map _).length;rw[List.length_map];exact hjl)]
   congr 2
   show (x.tests.map (shTest x.first t.first))[j]'_=_
   rw[List.getElem_map]
  obtain⟨bT,oT,oaT,rfl,hrow0,_⟩:=TestR.at (RowsAt.ext (R:=TestR) (fun x _=>x) hTs hE06) hjl
  generalize x.tests[j]=y at *
  refine zy ?_
  refine Wo_do rfl rfl rfl rfl (A_ix Und.h Tsz.h rfl rfl) ?_
  refine zy ?_
  refine Wo_allocStore rfl rfl Zr.h Tsz.h rfl (fun _=>rfl) rfl rfl rfl fun h7 hE7 hW7 hg15 hn7=>?_
  have hO7:=hO6.newCe hw6 hE6.2.1 hE7 hg15 (Nat.le_refl _)
  replace hE6:=hE6.trans hE7
  replace hg26:=hE7.get hg26
  replace k11:=hE7.get k11
  generalize h6.nx=b15 at *
  refine zy ?_
  refine Wo_storeO hw2 hE6 rfl Tsz.h rfl rfl hO7 rfl rfl rfl fun h8 hw8 hO8 hE8=>?_
  have k15:h8.get b15=_:=hO8.p1
  refine zy ?_
  refine Wo_bs rfl rfl Und.h Tsz.h Zr.h rfl rfl rfl rfl rfl fun h9 hE9 hW9 hg9 hx9=>?_
  refine Wo_appendO (by':=24) (sz:=3) (k:=1) (n:=j) (l:=tC (shTest x.first t.first y)) hw2 (hE8.trans hE9) rfl rfl rfl rfl rfl Und.h inferInstance rfl rfl ((hO8.ext hE9).tail) ((FreshSl.lit (h0:=h2) (n:=1) (sz:=3) hg9 rfl hE8.2.1).src (dd:=.slice 91) Und.h (by intro k;simp)) rfl rfl (by omega) (by omega) fun v14 h10 hW10 hO10 hE10=>?_
  refine zy ?_
  refine⟨j+1,(by show x.tests.length-(j+1)<x.tests.length-j;omega),rfl,hjl,hE10,v14,?_,rfl,rfl,rfl,rfl,rfl,rfl,rfl,rfl,trivial⟩
  rw[hts,List.flatMap_append,List.flatMap_cons,List.flatMap_nil,List.append_nil]
  exact hO10
 have hjj:j=(shiftD t.first x).tests.length:=by show j=(x.tests.map _).length;rw[List.length_map];omega
 subst hjj
 rw[List.take_length] at hO6
 clear hjp hTs
 have hsl:(shiftD t.first x).tests.length=x.tests.length:=by show (x.tests.map _).length=_;rw[List.length_map]
 refine zy ?_
 refine Wo_storeO hw2 hE6 rfl Tsz.h rfl rfl (hO6.pick 1 rfl) rfl rfl rfl fun h7 hw7 hO7 hE7=>?_
 have hO7b:=hO7.unpick 1 (Nat.le_of_ble_eq_true rfl)
 obtain⟨ta,ct',rfl,-,-⟩:=tRows (h:=h7) hO7b.p1
 refine zy ?_
 refine Wo_storeO hw2 hE7 rfl Tsz.h rfl rfl (hO7b.pick 1 rfl) rfl rfl rfl fun h8 hw8 hO8 hE8=>?_
 have hO9:Own h2 h8 [slI h2 (.slice ta (shiftD t.first x).tests.length ct') 91 3 ((shiftD t.first x).tests.flatMap tC) (shiftD t.first x).tests.length,ceI b11 [.slice ah x.rule.heat.length ch,.slice aw x.rule.wet.length cw,i64 x.rule.own,i64 x.rule.feed,i64 g0,i64 g1',i64 g2',i64 x.rule.lost,i64 t.first,.slice ad x.days.length cd,i64 x.start.lo,i64 x.start.hi,.slice ta (shiftD t.first x).tests.length ct'] 54 false,ceI b8 [i64 t.first,i64 t.days,.slice am t.machines.length cm,vU] 25 false,slI h2 vU 63 5 (E.flatMap Ent.row) E.length,slI h2 vO 54 13 (E.flatMap Ent.xrow) E.length,tsI E]:=hO8.unpick 1 (Nat.le_of_ble_eq_true rfl)
 have hE08:=hE.trans hE8
 obtain⟨ta',c2',e2,htr,htb⟩:=tRows (h:=h8) hO9.p1
 cases e2
 clear k11
 have k11:h8.get b11=_:=hO9.at 1 rfl
 have hg28:=hE8.get hg2
 clear hO6 hO7 hO7b hO8 hE7 hE6 hw6 hw7 hg26 hE06 hall
 clear h7 h6 m
 have hDT:DTaskAt h8 [.slice ah x.rule.heat.length ch,.slice aw x.rule.wet.length cw,i64 x.rule.own,i64 x.rule.feed,i64 g0,i64 g1',i64 g2',i64 x.rule.lost,i64 t.first,.slice ad x.days.length cd,i64 x.start.lo,i64 x.start.hi,.slice ta (shiftD t.first x).tests.length ct'] (shiftD t.first x):=⟨_,ad,cd,ta,ct',hru0.ext hE08,rfl,RowsAt.ext (R:=DayR) (fun x _=>x) hDs hE08,htr⟩
 refine zy ?_
 refine Wo_callr rfl rfl rfl rfl rfl Bod.h rfl rfl (due_sv (last:=t.first+x.days.length) (margin:=0) hDT hsf ⟨by omega,by omega⟩ ⟨by decide,by decide⟩) ?_
 rintro v h9 ⟨hv,hE9⟩
 obtain⟨d,ed,rfl⟩:∃a b,v=.tuple ⟨[i64 a,i64 b]⟩:=by
  rcases hv with ⟨_,rfl⟩|⟨_,f,_,rfl⟩
  ·exact⟨_,_,rfl⟩
  ·exact⟨_,_,rfl⟩
 have hO10:=hO9.ext hE9
 have hg29:=hE9.get hg28
 have hE29:=hE8.trans hE9
 have hE09:=hE.trans hE29
 clear hO9 hE9 hg28 k11 hDT hE08 hw8 hE8 htr
 clear h8
 refine Wo_wf fun hw9=>?_
 obtain⟨bR,oR,oaR,rfl,rrow,hrr0,hre⟩:=hR i hir
 have hrr:=hE09.row hrr0
 have hrE:=hNE.re _ (List.getElem_mem hir)
 have hrF:=hf.rsF _ (List.getElem_mem hir)
 have htk:=take_succ hir
 generalize t.reels[i]=r at *
 obtain⟨ams,cms,rfl,hms⟩:=hre
 refine zy ?_
 refine Wo_do rfl rfl rfl rfl (A_ix Und.h Tsz.h rfl rfl) ?_
 refine zy ?_
 refine Wo_allocStore rfl rfl Zr.h Tsz.h rfl (fun _=>rfl) rfl rfl rfl fun h10 hE10 hW10 hg18 hn10=>?_
 have hO11:=hO10.newCe hw9 hE29.2.1 hE10 hg18 (Nat.le_refl _)
 have hE210:=hE29.trans hE10
 generalize h9.nx=b18 at *
 clear hE10 hn10 hrr hO10 hE29 hg29 hE09 hw9 hW10
 clear h9
 refine zy ?_
 refine Wo_do rfl rfl rfl rfl (A_min rfl rfl) ?_
 refine zy ?_
 refine Wo_storeO hw2 hE210 rfl Tsz.h rfl rfl hO11 rfl rfl rfl fun h11 hw11 hO12 hE11=>?_
 have k18:h11.get b18=_:=hO12.p1
 have k11:h11.get b11=_:=hO12.at 2 rfl
 have k8:h11.get b8=_:=hO12.at 3 rfl
 clear hg18 hO11 hE210
 clear h10
 refine zy ?_
 refine Wo_dec rfl rfl rfl rfl (A_neq rfl rfl) (fun b1=>?_) (fun b1=>?_)
 ·refine zy ?_
  exact⟨i+1,(by show t.reels.length-(i+1)<t.reels.length-i;omega),rfl,hir,hE11,vU,vO,E,hok,hsub.trans hsubN,Nat.le_succ_of_le hEl,hO12.sub (.cons _ (.cons _ (.cons _ (.refl _)))),rfl,rfl,rfl,rfl,rfl,trivial⟩
 have b1:ed=0:=Classical.byContradiction b1
 refine zy ?_
 refine Wo_dec rfl rfl rfl rfl (A_lss rfl rfl) (fun b3=>?_) (fun b3=>?_)
 ·refine zy ?_
  exact⟨i+1,(by show t.reels.length-(i+1)<t.reels.length-i;omega),rfl,hir,hE11,vU,vO,E,hok,hsub.trans hsubN,Nat.le_succ_of_le hEl,hO12.sub (.cons _ (.cons _ (.cons _ (.refl _)))),rfl,rfl,rfl,rfl,rfl,trivial⟩
 have hdu:∃f,BackL (shiftD t.first x) f 0/\dErr (shiftD t.first x)=0/\dueS t.first x.days.length (lostLo (shiftD t.first x).rule.lost t.first (knownL (shiftD t.first x) f)) (t.first+x.days.length) 0=(d,0):=by
  rcases hv with ⟨hn,e⟩|⟨c0',f,hB',e⟩
  ·simp only[Value.tuple.injEq,Array.mk.injEq,List.cons.injEq,Value.int.injEq,true_and,and_true] at e
   exact absurd (e.2.symm.trans b1) hn
  ·simp only[Value.tuple.injEq,Array.mk.injEq,List.cons.injEq,Value.int.injEq,true_and,and_true] at e
   exact⟨f,hB',c0',Prod.ext e.1.symm (e.2.symm.trans b1)⟩
 obtain⟨f,hB',c0',hdS⟩:=hdu
 obtain⟨_,d1,d2,_,_⟩:=due_rng (t:=shiftD t.first x) hdS
 replace d1:t.first<=d:=d1
 let eN:Ent:=⟨dueR r d,[str r.name,.slice ams r.machines.length cms,i64 r.ready,i64 (min r.due d),i64 r.risk],shiftD t.first x,[.slice ah x.rule.heat.length ch,.slice aw x.rule.wet.length cw,i64 x.rule.own,i64 x.rule.feed,i64 g0,i64 g1',i64 g2',i64 x.rule.lost,i64 t.first,.slice ad x.days.length cd,i64 x.start.lo,i64 x.start.hi,.slice ta (shiftD t.first x).tests.length ct'],ta⟩
 have heN:EntOk h2 t eN:=by
  refine⟨⟨ams,cms,rfl,hms.ext hE⟩,dueR_ok hrE (show r.ready<=min r.due d by omega),⟨hrF.name,hrF.ms,hrF.msI,hrF.ready,?_,hrF.risk⟩,hsf,c0',rfl,⟨f,d,hB',hdS,Int.min_le_right _ _⟩,_,ad,cd,ct',hru0.ext hE,rfl,RowsAt.ext (R:=DayR) (fun x _=>x) hDs hE⟩
  have h1:=hrF.due.1
  have h2:=hrF.due.2
  exact⟨by show -9223372036854775808<=min r.due d;omega,by show min r.due d<9223372036854775808;omega⟩
 have hokN:∀e∈E++[eN],EntOk h2 t e:=fun e he=>by
  rcases List.mem_append.1 he with g|g
  ·exact hok e g
  ·rw[List.mem_singleton.1 g];exact heN
 have hsubE:((E++[eN]).map fun e=>e.r.name).Sublist ((t.reels.take (i+1)).map Reel.name):=by
  rw[htk,List.map_append,List.map_append]
  exact hsub.append (List.Sublist.refl _)
 have hElN:(E++[eN]).length=E.length+1:=by simp
 have hrow5:(E++[eN]).flatMap Ent.row=E.flatMap Ent.row++[str r.name,.slice ams r.machines.length cms,i64 r.ready,i64 (min r.due d),i64 r.risk]:=by rw[List.flatMap_append];simp[eN]
 have hrow13:(E++[eN]).flatMap Ent.xrow=E.flatMap Ent.xrow++[.slice ah x.rule.heat.length ch,.slice aw x.rule.wet.length cw,i64 x.rule.own,i64 x.rule.feed,i64 g0,i64 g1',i64 g2',i64 x.rule.lost,i64 t.first,.slice ad x.days.length cd,i64 x.start.lo,i64 x.start.hi,.slice ta (shiftD t.first x).tests.length ct']:=by rw[List.flatMap_append];simp[eN]
 have hEa:Ext h11 (rsv (Heap.add h11 (.cells [str r.name,.slice ams r.machines.length cms,i64 r.ready,i64 (min r.due d),i64 r.risk] 63 false))):=(Ext.add hw11 _).trans (Ext.rsv _)
 have hlt:=hO12.lt hw11
 have k11a:=hEa.get k11
 have hE2a:=hE11.trans hEa
 have hO12q:=hO12.pick 4 rfl
 have hne11:=hO12q.ne hw11 (Nat.le_succ h11.nx)
 have hO12a:=hO12q.ext hEa
 refine zy ?_
 refine Wc_draw hmix [0,1,0,4,15,0,0,64,255,31,1023,2047] [0,1,2,3,5,6,7] (some 4) [([9],(some 8)),([],(some 10)),([],(some 11)),([],none)] (by kernel_rfl) (by kernel_rfl) ?_
 refine z_f ?_;refine z_l ?_;refine z_r ?_
 refine Wp_new (nk:=.sl _ _) rfl rfl rfl rfl rfl (fun _ _ hs=>N_bs hs Und.h Tsz.h Zr.h rfl rfl rfl rfl rfl) ?_
 refine z_m ?_;refine z_r ?_
 refine Wp_new (nk:=.sl _ _) rfl rfl rfl rfl rfl (fun _ _ hs=>N_bs hs Und.h Tsz.h Zr.h rfl rfl rfl rfl (fill54 _ _ _ _ _ _ _ _ _ _ _ _ _)) ?_
 refine Wp_eff (h1:=(rsv (Heap.add h11 _))) [0,1,2,3] (by kernel_rfl) rfl (Stl_nil rfl) rfl rfl rfl (W1_wfK (W1_appendR (n1:=h11.nx+1) (by':=64) (sz:=5) (k:=1) (n:=E.length) (l:=[str r.name,.slice ams r.machines.length cms,i64 r.ready,i64 (min r.due d),i64 r.risk]) rfl hw2 hE2a rfl rfl rfl rfl Und.h inferInstance rfl rfl hO12a ((FreshSl.lit (h0:=h2) (n:=1) (sz:=5) ((Ext.rsv _).get Heap.get_add_same) rfl hE11.2.1).src (dd:=.slice 63) Und.h (by intro k;simp)) rfl rfl (by omega) (by omega) hne11 (Nat.lt_succ_self _) (fun v12 h12 hO13 hE12 hne12 hn12 hw12=>?_)))
 have hU12:=Upd.mk' h12 (h11.nx+1) (.cells [.slice ah x.rule.heat.length ch,.slice aw x.rule.wet.length cw,i64 x.rule.own,i64 x.rule.feed,i64 g0,i64 g1',i64 g2',i64 x.rule.lost,i64 t.first,.slice ad x.days.length cd,i64 x.start.lo,i64 x.start.hi,.slice ta (shiftD t.first x).tests.length ct'] 54 false)
 have hO13':=hO13.other (.cells [.slice ah x.rule.heat.length ch,.slice aw x.rule.wet.length cw,i64 x.rule.own,i64 x.rule.feed,i64 g0,i64 g1',i64 g2',i64 x.rule.lost,i64 t.first,.slice ad x.days.length cd,i64 x.start.lo,i64 x.start.hi,.slice ta (shiftD t.first x).tests.length ct'] 54 false) hne12
 have hn11:=hE11.2.1
 have hE12':=hU12.ext hE12 hw2 (Nat.le_succ_of_le hn11)
 have k11c:h12.get b11=_:=(hO13.unpick 4 (Nat.le_of_ble_eq_true rfl)).at 2 rfl
 rw[<-hElN,<-hrow5] at hO13'
 have hO14:=hO13'.unpick 4 (Nat.le_of_ble_eq_true rfl)
 have k11b:(h12.set (h11.nx+1) (.cells [.slice ah x.rule.heat.length ch,.slice aw x.rule.wet.length cw,i64 x.rule.own,i64 x.rule.feed,i64 g0,i64 g1',i64 g2',i64 x.rule.lost,i64 t.first,.slice ad x.days.length cd,i64 x.start.lo,i64 x.start.hi,.slice ta (shiftD t.first x).tests.length ct'] 54 false)).get b11=_:=hO14.at 2 rfl
 refine z_f ?_
 refine Wp_eff (h1:=(h12.set (h11.nx+1) (.cells [.slice ah x.rule.heat.length ch,.slice aw x.rule.wet.length cw,i64 x.rule.own,i64 x.rule.feed,i64 g0,i64 g1',i64 g2',i64 x.rule.lost,i64 t.first,.slice ad x.days.length cd,i64 x.start.lo,i64 x.start.hi,.slice ta (shiftD t.first x).tests.length ct'] 54 false))) [0,1,2,3,4,5,6,7] (by kernel_rfl) rfl (by refine Stl_new (i:=7) (nk:=.sl _ _) rfl rfl rfl rfl rfl (fun _ _ hs=>N_bs hs Und.h Tsz.h Zr.h rfl rfl rfl rfl (fill54 _ _ _ _ _ _ _ _ _ _ _ _ _)) rfl ?_;refine t_r 6 ?_;refine t_m 5 ?_;exact Stl_nil rfl) rfl rfl rfl (W1_wfK (W1_appendO (by':=168) (sz:=13) (k:=1) (n:=E.length) (l:=[.slice ah x.rule.heat.length ch,.slice aw x.rule.wet.length cw,i64 x.rule.own,i64 x.rule.feed,i64 g0,i64 g1',i64 g2',i64 x.rule.lost,i64 t.first,.slice ad x.days.length cd,i64 x.start.lo,i64 x.start.hi,.slice ta (shiftD t.first x).tests.length ct']) rfl hw2 hE12' rfl rfl rfl rfl Und.h inferInstance rfl rfl (hO14.pick 5 rfl) ((FreshSl.lit (h0:=h2) (n:=1) (sz:=13) hU12.at' rfl (Nat.le_succ_of_le hn11)).src (dd:=.slice 54) Und.h (by intro k;simp)) rfl rfl (by omega) (by omega) (fun v14 h14 hO15 hE14 hw14=>?_)))
 rw[<-hElN,<-hrow13] at hO15
 have hO16:=hO15.unpick 5 (Nat.le_of_ble_eq_true rfl)
 obtain⟨bu,spu,rfl⟩:=sl_shape (show FreshSl h2 h14 v12 63 5 _ _ from hO16.at 4 rfl) (by rw[hElN];exact Nat.succ_pos _)
 refine Wp_eff (h1:=h14) [0,1,2,3,4,5,6,7,8,9] (by kernel_rfl) rfl (by refine t_f 9 ?_;exact Stl_nil rfl) rfl rfl rfl (W1_wfK (W1_storeO rfl hw2 hE14 rfl Tsz.h rfl rfl (hO16.pick 3 rfl) rfl rfl rfl (fun h15 hO17 hE15 hw15=>?_)))
 refine Wp_eff (h1:=h15) [0,1,2,3,4,5,6,7,8,9,10] (by kernel_rfl) rfl (Stl_nil rfl) rfl rfl rfl (W1_op rfl rfl (A_assign rfl) ?_)
 refine Wp_end (h1:=h15) (Stl_nil rfl) rfl ?_
 have hO18:=(hO17.unpick 3 (Nat.le_of_ble_eq_true rfl)).shuf (ceI 0 [] 0 false) [0,1,2,3,4,5,6] [1,6,3,4,5,0,2] (by decide) rfl
 have hO19:=Own.merge (z:=tsI (E++[eN])) hO18 (fun hF hp e he=>by
  rcases List.mem_append.1 he with g|g
  ·exact hp e g
  ·rw[List.mem_singleton.1 g]
   obtain⟨a',c',e',hr',_⟩:=tRows (h:=h15) hF
   cases e'
   exact hr') (fun c hc=>by
  obtain⟨e,he,hne,o,sp,ea⟩:=hc
  rcases List.mem_append.1 he with g|g
  ·exact .inr ⟨e,g,hne,o,sp,ea⟩
  ·rw[List.mem_singleton.1 g] at ea
   exact .inl (htb _ _ _ ea))
 have hO20:=(hO19.sub (.cons_cons _ (.cons_cons _ (.cons_cons _ (.cons_cons _ (.cons _ (.cons _ .slnil))))))).shuf (ceI 0 [] 0 false) [0,1,2,3] [1,2,3,0] (by decide) rfl
 refine zy ?_
 exact⟨i+1,(by show t.reels.length-(i+1)<t.reels.length-i;omega),rfl,hir,hE15,_,_,E++[eN],hokN,hsubE,(by omega),hO20,rfl,rfl,rfl,rfl,rfl,trivial⟩
end Go.Dw
/- FE: reading with the weights that a row keeps to; a list of tasks of decay. -/
namespace Go.Dw
open Go Go.Dx Go.Proofs
set_option maxRecDepth 100000
section
variable {H:Type}{enc:TypeId×Value->H}{P:Program}{W:World}{t e:TypeId}{cs:List Value}
def RdW (enc:TypeId×Value->H)(P:Program)(W:World)(t:TypeId)(cs:List Value):Prop:=∃n x,DataW.trod enc P W 0 (fun _=>true) true n t cs=some x/\∀k∈x.1.weights P t,k<=reachBytes
theorem RdW.rd (h:RdW enc P W t cs):Rd enc P W t cs:=by
 obtain⟨n,x,h1,_⟩:=h
 exact⟨n,x,h1⟩
theorem rdW_struct {fs:Array Field}(ht:P.underlying t=some (.struct fs))(h:RdW enc P W t cs):∀(i:Nat)(f:Field),fs[i]?=some f->RdW enc P W f.type ((cs.drop f.offset).take (P.cellsOf f.type)):=by
 obtain⟨m,x,hx,hw⟩:=h
 obtain⟨xs,n,_,rfl,_,h2,h3⟩:=DataW.trod_struct ht hx
 intro i f hi
 have:=h3 i f hi
 have hlt:i<xs.length:=by rw[h2];exact (Array.getElem?_eq_some_iff.1 hi).1
 rw[List.getElem?_eq_getElem hlt] at this
 refine⟨n,_,this,fun k hk=>hw k ?_⟩
 show k∈(DataW.agg (xs.map (·.1))).weights P t
 rw[DataW.weights,ht]
 refine DataW.weights_mem_each (j:=i) (t:=f.type) (d:=xs[i].1) ?_ ?_ k hk
 ·rw[List.getElem?_map,Array.getElem?_toList,hi];rfl
 ·rw[List.getElem?_map,List.getElem?_eq_getElem hlt];rfl
theorem weights_all:∀{l:List (DataW H)}{d:DataW H},d∈l->∀k∈d.weights P e,k∈DataW.weightsAll P e l
 | a::l,d,hd,k,hk=>by
  rw[DataW.weightsAll]
  rcases List.mem_cons.1 hd with rfl|g
  ·exact List.mem_append_left _ hk
  ·exact List.mem_append_right _ (weights_all g k hk)
theorem rdW_slice (ht:P.underlying t=some (.slice e))(hz:0<P.cellsOf e)(h:RdW enc P W t cs):∃v a len cap,cs=[v]/\okv W.heap.size v=true/\nz v=.slice a len cap/\len<9223372036854775808/\len*P.bytesOf e<=reachBytes ∧
  ∀i,i<len->∃b o,a=some ⟨b,o,none⟩/\∃row c t fz,W.heap[b]?=some (.cells c t fz)/\cut c.toList (o+i*P.cellsOf e) (P.cellsOf e)=some row/\RdW enc P W e row:=by
 have h5:maxLen=9223372036854775807:=by decide
 obtain⟨m,x,hx,hw⟩:=h
 rcases DataW.trod_slice ht hx with ⟨h1,_⟩|⟨a,len,cap,elems,rest,n,_,h1,hxe,_,hlc,hcm,hel,he,hr,_⟩
 ·exact⟨_,none,0,0,h1,rfl,rfl,by decide,by rw[Nat.zero_mul];exact Nat.zero_le _,fun i hi=>by omega⟩
 ·subst hxe
  have hwe:(DataW.slice (elems.map (·.1)) (rest.map (·.1))).weights P t=((elems.map (·.1)).length+(rest.map (·.1)).length)*P.bytesOf e::(DataW.weightsAll P e (elems.map (·.1))++DataW.weightsAll P e (rest.map (·.1))):=by
   rw[DataW.weights,ht]
  simp only[hwe] at hw
  have hbytes:len*P.bytesOf e<=reachBytes:=by
   have h1:=hw _ List.mem_cons_self
   rw[List.length_map,List.length_map,hel] at h1
   exact Nat.le_trans (Nat.mul_le_mul_right _ (Nat.le_add_right _ _)) h1
  have hread:∀i,i<len->∃row,W.cells? 0 (a.add (i*P.cellsOf e)) (P.cellsOf e)=some row/\RdW enc P W e row:=by
   intro i g
   have hb:=he i g
   have hil:i<elems.length:=by omega
   rw[List.getElem?_eq_getElem hil] at hb
   cases hc:W.cells? 0 (a.add (i*P.cellsOf e)) (P.cellsOf e) with
   | none=>rw[hc] at hb;cases hb
   | some row =>
    rw[hc] at hb
    refine⟨row,rfl,n,_,hb,fun k hk=>hw k (List.mem_cons_of_mem _ (List.mem_append_left _ (weights_all (List.mem_map.2 ⟨_,List.getElem_mem hil,rfl⟩) k hk)))⟩
  by_cases hlen:len=0
  ·subst hlen
   obtain⟨v,a',len',cap',g1,g2,g3,g4,g5⟩:=rd_slice ht hz ⟨m,_,hx⟩
   have hv:v=.slice (some a) 0 cap:=by rw[h1] at g1;exact (List.cons.inj g1).1.symm
   have:len'=0:=by
    rw[hv] at g3
    unfold nz at g3
    split at g3
    ·simp only[Value.slice.injEq] at g3;exact g3.2.1.symm
    ·simp only[Value.slice.injEq] at g3;exact g3.2.1.symm
   subst this
   exact⟨v,a',0,cap',g1,g2,g3,g4,hbytes,fun i hi=>absurd hi (Nat.not_lt_zero _)⟩
  ·obtain⟨row0,hc0,_⟩:=hread 0 (by omega)
   have e0:a.add (0*P.cellsOf e)=a:=by simp[Addr.add]
   rw[e0] at hc0
   obtain⟨hsp,c,t',fz,hb,_⟩:=cells_cut hc0 hz
   obtain⟨b,o,sp⟩:=a
   simp only at hsp hb
   subst hsp
   have hlt:b<W.heap.size:=(Array.getElem?_eq_some_iff.1 hb).1
   have hne:¬(len=0/\cap=0):=fun h=>hlen h.1
   refine⟨_,some ⟨b,o,none⟩,len,cap,h1,?_,?_,by omega,hbytes,fun i hi=>⟨b,o,rfl,?_⟩⟩
   ·have hbl:Nat.blt b W.heap.size=true:=by rw[Nat.blt_eq];exact hlt
    exact okv_sl hbl
   ·unfold nz
    split
    ·rename_i hq;simp only[Value.slice.injEq] at hq;exact absurd ⟨hq.2.1,hq.2.2⟩ hne
    ·rfl
   ·obtain⟨row,hc,hrd⟩:=hread i hi
    obtain⟨_,c1,t1,fz1,hb1,hcut⟩:=cells_cut hc hz
    have hblk:((⟨b,o,none⟩:Addr).add (i*P.cellsOf e)).block=b:=by unfold Addr.add;split <;> rfl
    have hoff:((⟨b,o,none⟩:Addr).add (i*P.cellsOf e)).off=o+i*P.cellsOf e:=by unfold Addr.add;split <;> simp_all
    rw[hblk] at hb1
    rw[hoff] at hcut
    exact⟨row,c1,t1,fz1,hb1,hcut,hrd⟩
theorem rdW_rows {α:Type}{R:Heap->List Value->α->Prop}{Fit:α->Prop}{k:Nat}(ht:P.underlying t=some (.slice e))(hz:P.cellsOf e=k)(hk:0<k)(hel:∀row,RdW enc P W e row->∃x,row.all (okv W.heap.size)=true/\R (ro W) (row.map nz) x/\Fit x)(h:RdW enc P W t cs) :
  ∃v a l cap,cs=[v]/\okv W.heap.size v=true/\nz v=.slice a l.length cap/\RowsAt k R (ro W) a l/\Len l/\∀x∈l,Fit x:=by
 obtain⟨v,a,len,cap,h1,h2,h3,h4,_,h5⟩:=rdW_slice ht (by omega) h
 have:∀i,i<len->∃x,(∃b o,a=some ⟨b,o,none⟩/\∃row,rowAt (ro W) b (o+i*k) k=some row/\R (ro W) row x)/\Fit x:=by
  intro i hi
  obtain⟨b,o,ha,row,c,t',fz,hb,hc,hrd⟩:=h5 i hi
  obtain⟨x,ok,hx,hf⟩:=hel row hrd
  rw[hz] at hc
  exact⟨x,⟨b,o,ha,_,ro_row hb hc ok,hx⟩,hf⟩
 obtain⟨l,hl,hR⟩:=list_of this
 subst hl
 refine⟨v,a,l,cap,h1,h2,h3,fun i hi=>?_,h4,fun x hx=>?_⟩
 ·obtain⟨⟨b,o,ha,row,hc,hx⟩,_⟩:=hR i hi
  exact⟨b,o,none,ha,row,hc,hx⟩
 ·obtain⟨i,hi,rfl⟩:=List.getElem_of_mem hx
  exact (hR i hi).2
end
section
variable {H:Type}{enc:TypeId×Value->H}{W:World}{cs:List Value}
theorem bytes91:Tryz.prog.bytesOf 91=24:=by kernel_rfl
theorem rd_dtaskW (h:RdW enc Tryz.prog W 54 cs):∃t:DTask,cs.all (okv W.heap.size)=true/\DTaskAt (ro W) (cs.map nz) t/\(t.Fit/\t.tests.length*24<=140737488351232):=by
 obtain⟨t,ok,hT,hF⟩:=rd_dtask h.rd
 refine⟨t,ok,hT,hF,?_⟩
 obtain⟨c3,c45,c46,c48,c49,c51,c52,c54,c91,c138,c175⟩:=cells_dt
 have h1:=(rd_struct Tryz.underlying54 h.rd).1
 have h2:=rdW_struct Tryz.underlying54 h
 rw[c54] at h1
 obtain⟨x0,x1,x2,x3,x4,x5,x6,x7,x8,x9,y0,y1,y2,rfl⟩:∃x0 x1 x2 x3 x4 x5 x6 x7 x8 x9 y0 y1 y2,cs=[x0,x1,x2,x3,x4,x5,x6,x7,x8,x9,y0,y1,y2]:=by
  match cs,h1 with
  | [x0,x1,x2,x3,x4,x5,x6,x7,x8,x9,y0,y1,y2],_=>exact⟨x0,x1,x2,x3,x4,x5,x6,x7,x8,x9,y0,y1,y2,rfl⟩
 have f4:RdW enc Tryz.prog W 52 (([x0,x1,x2,x3,x4,x5,x6,x7,x8,x9,y0,y1,y2].drop 12).take (Tryz.prog.cellsOf 52)):=h2 4 _ rfl
 rw[c52] at f4
 obtain⟨v,a,len,cap,e1,_,e3,_,hb,_⟩:=rdW_slice Tryz.underlying52 (by rw[c91];decide) f4
 rw[bytes91] at hb
 simp at e1
 subst e1
 obtain⟨rr,ad,cd,ats,ct,hr,e,_,_⟩:=hT
 obtain⟨ah,ch,aw,cw,g0,g1,g2,_,rfl,_,_⟩:=hr
 simp only[List.map_cons,List.map_nil,List.cons_append,List.nil_append,List.cons.injEq,and_true] at e
 have e4:=e.2.2.2.2.2.2.2.2.2.2.2.2
 rw[e3] at e4
 simp only[Value.slice.injEq] at e4
 rw[<-e4.2.1]
 exact hb
end
end Go.Dw
