/- K1: contracts: clashes, as the reference finds them. -/
import Derived.Test.YthlmgoefjmlndaaGreatDoorTG2
import Derived.Test.YthlmgoefjmlndaaGreatDoorTG21
set_option linter.unusedVariables false
set_option linter.unusedSimpArgs false
namespace Go.Dw
open Go Go.Dx Go.Proofs
set_option maxRecDepth 100000
abbrev Cls:=Key×List Str
def clF (S:List WkR)(x:WkR):List Cls:=if ZBW (nxtW S) x.a x.b (nodW S).length=[] then [] else [(x.key,ZBW (nxtW S) x.a x.b (nodW S).length)]
def clsL (S L:List WkR):List Cls:=L.flatMap fun x=>if x.kind=3 then clF S x else []
theorem ZPU (S L:List WkR)(x:WkR):clsL S (L++[x])=clsL S L++if x.kind=3 then clF S x else []:=by
 unfold clsL;rw[List.flatMap_append,List.flatMap_singleton]
theorem ZQb (S:List WkR):∀L:List WkR,(ofK [3] L).flatMap (clF S)=clsL S L
 | []=>rfl
 | x::L=>by
  have ih:=ZQb S L;unfold clsL at ih ⊢;rw[List.flatMap_cons,<-ih];unfold ofK
  by_cases h:x.kind=3
  ·rw[List.filter_cons,if_pos (by simp[h]),List.flatMap_cons,if_pos h]
  ·rw[List.filter_cons,if_neg (by simp[h]),if_neg h];rfl
theorem ZM9 (S L:List WkR):(clsL S L).length<=L.length:=by
 induction L with
 | nil=>exact Nat.le_refl _
 | cons x L ih =>
  unfold clsL at ih ⊢;rw[List.flatMap_cons,List.length_append,List.length_cons];have:(if x.kind=3 then clF S x else []).length<=1:=by
   split
   ·unfold clF;split <;> simp
   ·exact Nat.zero_le _
  omega
def ClsR (h:Heap)(row:List Value)(c:Cls):Prop:=∃a k,row=[str c.1.1,i64 c.1.2,.slice a c.2.length k]/\ZAu str h a c.2
theorem ClsR.ext {h h':Heap}{row:List Value}{c:Cls}(hr:ClsR h row c)(hE:Ext h h'):ClsR h' row c:=by
 obtain⟨a,k,e,hl⟩:=hr;exact⟨a,k,e,hl.ext hE⟩
abbrev rowC (c:Value×Cls):List Value:=[str c.2.1.1,i64 c.2.1.2,c.1]
def cI (h0:Heap)(c:Value×Cls):It:=slI h0 c.1 9 1 (c.2.2.map str) c.2.2.length
def clI (h0:Heap)(v:Value)(C:List (Value×Cls)):It:=slI h0 v 62 3 (C.flatMap rowC) C.length
theorem ZPN {h0 h:Heap}{v:Value}{C:List (Value×Cls)}{I:List It}(hO:Own h0 h (clI h0 v C::(C.map (cI h0)++I))):∃a,v=.slice a C.length C.length/\ZAv 3 ClsR h a (C.map Prod.snd):=by
 obtain⟨a,hv,hS,-⟩:=ZAA.rowsAt (enc:=rowC) (k:=3) (fun _=>rfl) (show ZAA h0 h v 62 3 _ _ from hO.p1) rfl;refine⟨a,hv,fun i hi=>?_⟩;have hi':i<C.length:=by simpa using hi
 obtain⟨b,o,oa,rfl,row,hr,hx⟩:=hS.1 i hi';refine⟨b,o,oa,rfl,row,hr,?_⟩;have hx':row=rowC C[i]:=hx;subst hx';rw[List.getElem_map];have hF:ZAA h0 h C[i].1 9 1 (C[i].2.2.map str) C[i].2.2.length:=hO.has (cI h0 C[i]) (List.mem_cons_of_mem _ (List.mem_append_left _ (List.mem_map.2 ⟨_,List.getElem_mem hi',rfl⟩)));obtain⟨ac,hvc,-,hl⟩:=ZAA.list (enc:=str) hF;exact⟨ac,C[i].2.2.length,by rw[<-hvc],hl⟩
theorem ZJG {S:List WkR}{x:WkR}(hx:x∈S)(h:x.kind=3):x.a∈nodW S:=by
 unfold nodW;refine List.mem_append_left _ (List.mem_append_right _ (ZEP.2 ⟨tieS x,List.mem_map.2 ⟨x,ZC8.2 ⟨hx,by simp[h]⟩,rfl⟩,.inl rfl⟩))
set_option maxHeartbeats 4000000 in
theorem ZFa {ad:Option Addr}{cap:Nat}{l:List WkR}{h:Heap}(hR:ZC0 h ad l)(hf:∀x∈l,x.Fit)(hlen:Len l) :
  Sv Tryz.prog 37 [.slice ad l.length cap] h (RetP fun v h'=>(((chkS l).2≠0/\v=.tuple ⟨[.slice none 0 0,i64 (chkS l).2]⟩)\/((chkS l).2=0/\∃a k,v=.tuple ⟨[.slice a (clsL (ZAW (mrgU ltW l)) (ZAW (mrgU ltW l))).length k,i64 0]⟩/\ZAv 3 ClsR h' a (clsL (ZAW (mrgU ltW l)) (ZAW (mrgU ltW l)))))/\Ext h h'):=by
 refine ZCo fun hw=>?_;have hcl:=ZCB (l:=l)
 have hcg:(chkS l).2=0->∀x∈ZAW (mrgU ltW l),ZAw x=0:=fun hc=>by
  have h1:=ZCB hc;have h2:=ZCh (l:=l) (i:=0) (by unfold chkS at hc;rw[if_neg (by omega)] at hc;exact hc);exact fun x hx=>h2 x (ZCZ hx)
 refine ZAG Tryz.func37 rfl (by rw[Tryz.ntmps37];rfl) ?_;show Wc Tryz.prog ⟨37,60,none⟩ _ _ _ _ _;refine zy ?_;refine ZAU rfl rfl rfl rfl rfl Bod.h rfl rfl (ZHW hR hf hlen) fun h1 hE1=>?_;refine zy ?_;refine ZAL rfl rfl rfl rfl (ZBF rfl rfl) (fun hc=>?_) (fun hc=>?_)
 ·refine zy ?_
  exact ZAE (ZAF rfl ⟨.inl ⟨hc,rfl⟩,hE1⟩)
 have hc0:(chkS l).2=0:=Decidable.not_not.1 hc;replace hcg:=hcg hc0;replace hcl:=hcl hc0;have hsl:(ZAW (mrgU ltW l)).length<=l.length:=ZEA l;have hsf:∀x∈ZAW (mrgU ltW l),x.Fit:=fun x hx=>hf x (ZCZ hx);refine zy ?_;refine ZAI rfl rfl rfl rfl rfl Bod.h rfl rfl (ZKM (hR.ext hE1) hf (by omega)) ?_;rintro _ h2 ⟨⟨a8,a4,rfl,hS8,-⟩,hE2⟩;generalize ZAW (mrgU ltW l)=S at *;have hE12:=hE1.trans hE2;refine ZBO fun hw2=>?_;have hnl:(nodW S).length<=10000:=Nat.le_trans (ZEj S) (by omega);have hne:=ZJ6 hcg;refine zy ?_
 refine ZAQ (fun (st:Nat×Value×List (Value×Cls)) m ds h'=>ds=[]/\Ext h2 h'/\st.1<=S.length/\Own h2 h' (clI h2 st.2.1 st.2.2::(st.2.2.map (cI h2)++[]))/\st.2.2.map Prod.snd=clsL S (S.take st.1) ∧
   AllK m [(0,.slice a8 S.length S.length),(6,st.2.1),(7,i64 st.1)]) (fun st=>S.length-st.1) (0,.slice none 0 0,[]) ?_ ?_
 ·exact⟨rfl,Ext.refl _,Nat.zero_le _,(Own.nil h2 h2).nilSl _ _,rfl,rfl,rfl,rfl,trivial⟩
 rintro⟨j,v6,C⟩ m ds h3 ⟨rfl,hE3,hj,hO3,hC,hall⟩;simp only at hj hO3 hC hall;refine Wc.le ?_ (Le.kn hall);clear hall;refine zy ?_;refine ZAL rfl rfl rfl rfl (ZAY rfl rfl) (fun hjl=>?_) (fun hjl=>?_);rotate_left
 ·have:j=S.length:=by omega
  subst this;rw[List.take_length] at hC;obtain⟨a6,rfl,hrows⟩:=ZPN hO3;rw[hC] at hrows;have hlC:C.length=(clsL S S).length:=by rw[<-hC,List.length_map]
  refine zy ?_;exact ZAE (ZAF rfl ⟨.inr ⟨hc0,a6,C.length,by rw[hlC];rfl,hrows⟩,hE12.trans hE3⟩)
 have hj':j<S.length:=by omega
 have htk:clsL S (S.take (j+1))=clsL S (S.take j)++if S[j].kind=3 then clF S S[j] else []:=by
  rw[List.take_add_one,List.getElem?_eq_getElem hj'];exact ZPU _ _ _
 have hCl:C.length<=200:=by
  have:=congrArg List.length hC;rw[List.length_map] at this;have h2:=ZM9 S (S.take j);rw[List.length_take] at h2;omega
 have hxm:=List.getElem_mem hj';have hxa:S[j].kind=3->S[j].a∈nodW S:=fun q=>ZJG hxm q;obtain⟨b,o,oa,rfl,row,hrow0,hx⟩:=hS8.1 j hj';have hrow:=hE3.row hrow0;have hSR:ZC0 h3 (some ⟨b,o,oa⟩) S:=ZAv.ext (fun hr _=>hr) hS8.1 hE3;have ex:row=rowW S[j]:=hx;clear hx;generalize S[j]=x at *;subst ex;have hc3:ZAa h3 b (o+j*6+3)=some (i64 x.kind):=ZAN (k:=3) hrow rfl;have hc4:ZAa h3 b (o+j*6+4)=some (str x.a):=ZAN (k:=4) hrow rfl;have hc5:ZAa h3 b (o+j*6+5)=some (str x.b):=ZAN (k:=5) hrow rfl;refine zy ?_;refine ZAB rfl rfl rfl rfl (A_ix Und.h Tsz.h rfl rfl) ?_;refine zy ?_
 by_cases c3:x.kind=3
 rotate_left
 ·rw[if_neg c3,List.append_nil] at htk
  refine ZAB rfl rfl rfl rfl (A_tt c3 (ZBF rfl rfl)) ?_;refine zy ?_;exact⟨(j+1,_,C),(by show S.length-(j+1)<S.length-j;omega),rfl,hE3,hj',hO3,(by simp only;rw[htk];exact hC),rfl,rfl,rfl,trivial⟩
 rw[if_pos c3] at htk;refine ZAB rfl rfl rfl rfl (A_ff (fun q=>q c3) (ZBF rfl rfl)) ?_;refine zy ?_;refine ZDu fun hw3=>?_;refine ZAS hmix [0,0,0,6,14,30,0,0,192,448,960,2047,4095] [0,1,2,3,4,5,6,7,8,9,10] (some 11) [([],(some 12)),([],none)] (by kernel_rfl) (by kernel_rfl) ?_;refine z_m ?_;refine z_m ?_;refine z_m ?_;refine ZAD rfl rfl rfl rfl rfl (fun _=>A_ix (k:=j) Und.h Tsz.h rfl rfl) ?_;refine z_f ?_;refine z_l ?_;refine z_m ?_;refine z_m ?_;refine ZAD rfl rfl rfl rfl rfl (fun _=>A_ix (k:=j) Und.h Tsz.h rfl rfl) ?_;refine z_f ?_;refine z_l ?_;refine ZAJ [0,1,2,3,4,5,6,7,8,9,10] (by kernel_rfl) rfl (ZAC rfl) rfl nb (dF (dF (dF (dF (dF (dF (dF (dF (dF (dF (dF nF))))))))))) (ZJD rfl rfl rfl rfl rfl Bod.h (ZHB (a:=x.a) (b:=x.b) hSR hsf (by omega) (hxa c3) hne hnl) (fun v45 h5 hv=>?_))
 obtain⟨hF5,hE5⟩:=hv;refine ZAJ [0,1,2,3,4,5,6,7,8,9,10,11] (by kernel_rfl) rfl (ZAC rfl) rfl nb nF (ZDe rfl rfl (ZA8 rfl) ?_);refine ZAV (ZAC rfl) nb' ?_;unfold clF at htk;generalize ZBW (nxtW S) x.a x.b (nodW S).length=P at *;obtain⟨ap,rfl,-,-⟩:=ZAA.list (enc:=str) hF5;have hE25:=hE3.trans hE5;have hrow5:=hE25.row hrow0;refine zy ?_
 by_cases hP:P=[]
 ·rw[if_pos hP,List.append_nil] at htk
  refine ZAB rfl rfl rfl rfl (A_ff (by rw[hP];decide) (ZCR rfl rfl)) ?_;refine zy ?_;exact⟨(j+1,_,C),(by show S.length-(j+1)<S.length-j;omega),rfl,hE25,hj',hO3.ext hE5,(by simp only;rw[htk];exact hC),rfl,rfl,rfl,trivial⟩
 rw[if_neg hP] at htk;have hPl:0<P.length:=List.length_pos_iff.2 hP;have hO5:=(hO3.newSl hw3 hE3.2.1 hE5 hF5).up2;refine ZAB rfl rfl rfl rfl (A_tt (by omega) (ZCR rfl rfl)) ?_;refine zy ?_;refine ZAB rfl rfl rfl rfl (A_ix Und.h Tsz.h rfl rfl) ?_;refine zy ?_;refine ZAU rfl rfl rfl rfl rfl Bod.h rfl rfl (ZA2 x _) fun h6 hE6=>?_;refine zy ?_;refine ZBa rfl rfl Und.h Tsz.h Zr.h rfl rfl rfl rfl rfl fun h7 hE7 hW7 hg7 hn7=>?_;refine zy ?_;refine ZA7 (k:=1) (l:=rowC (.slice ap P.length P.length,x.key,P)) hw2 ((hE25.trans hE6).trans hE7) rfl rfl rfl rfl rfl Und.h inferInstance rfl rfl ((hO5.ext hE6).ext hE7) (ZBA Und.h (by intro k;simp) (ZAb hg7 rfl)) rfl rfl (by omega) (by omega) fun v8 h8 hW8 hO8 hE8=>?_
 refine zy ?_;refine⟨(j+1,v8,C++[(.slice ap P.length P.length,x.key,P)]),(by show S.length-(j+1)<S.length-j;omega),rfl,hE8,hj',?_,?_,rfl,rfl,rfl,trivial⟩
 ·simp only
  have el:clI h2 v8 (C++[(.slice ap P.length P.length,x.key,P)])=slI h2 v8 62 3 (C.flatMap rowC++rowC (.slice ap P.length P.length,x.key,P)) (C.length+1):=by
   unfold clI;rw[List.flatMap_append,List.length_append];rfl
  rw[el,List.append_nil,List.map_append];have h9:=hO8.perm (List.Perm.cons _ (List.perm_append_singleton _ _).symm);rw[List.append_nil] at h9;exact h9
 ·simp only
  rw[htk,List.map_append,hC];rfl
theorem ZND {h:Heap}{b o:Nat}{x y z:Value}(hr:ZAq h b o 3=some [x,y,z]):ZAq h b (o+0) 2=some [x,y]:=by
 have hcut:∀{vs l:List Value},cut vs o 3=some l->cut vs (o+0) 2=some (l.take 2):=fun {vs l} hq=>by
  obtain⟨g1,g2⟩:=ZDR hq;rw[Nat.add_zero,ZCN (by omega),g2,List.take_take]
  rfl
 unfold ZAq at hr ⊢
 split at hr
 ·exact hcut hr
 ·rename_i lim ob hg
  unfold rdo at hr ⊢
  split at hr
  ·rename_i c t fz
   cases hq:cut c.toList o 3 with
   | none=>rw[hq] at hr;cases hr
   | some l3 =>
    rw[hq] at hr;simp only at hr ⊢
    cases ha:l3.all (okv lim) with
    | false=>rw[ha] at hr;cases hr
    | true =>
     rw[ha] at hr;have hr':l3.map nz=[x,y,z]:=Option.some.inj hr;have h2:(l3.take 2).all (okv lim)=true:=List.all_eq_true.2 fun v hv=>List.all_eq_true.1 ha v (List.mem_of_mem_take hv);rw[hcut hq];simp only;rw[h2]
     show some ((l3.take 2).map nz)=_
     rw[List.map_take,hr']
     rfl
  ·cases hr
 ·cases hr
theorem ZNb {a a':Option Addr}{c c':Nat}{l:List Cls}{h:Heap}(h1:ZAv 3 ClsR h a l)(h2:ZAv 3 ClsR h a' l)(hlen:Len l)(hpl:∀x∈l,Len x.2):Sv Tryz.prog 38 [.slice a l.length c,.slice a' l.length c'] h (RetP fun v h'=>v=.bool true/\h'=h):=by
 refine ZAG Tryz.func38 rfl (by rw[Tryz.ntmps38];rfl) ?_;show Wc Tryz.prog ⟨38,42,none⟩ _ _ _ _ _;refine zy ?_;refine ZAB rfl rfl rfl rfl (A_ff (fun q=>q rfl) (ZBF rfl rfl)) ?_;refine zy ?_;refine ZAQ (fun (j:Nat) m ds h'=>ds=[]/\h=h'/\j<=l.length/\AllK m [(0,.slice a l.length c),(1,.slice a' l.length c'),(5,i64 (j:Nat))]) (fun j=>l.length-j) 0 ?_ ?_
 ·exact⟨rfl,rfl,Nat.zero_le _,rfl,rfl,rfl,trivial⟩
 rintro j m ds h' ⟨rfl,rfl,hj,hall⟩;refine Wc.le ?_ (Le.kn hall);clear hall;refine zy ?_;refine ZAL rfl rfl rfl rfl (ZAY rfl rfl) (fun hjl=>?_) (fun hjl=>?_);rotate_left
 ·refine zy ?_
  exact ZAE (ZAF rfl ⟨rfl,rfl⟩)
 have hj':j<l.length:=by omega
 obtain⟨b,o,oa,rfl,row,hr,ac,kc,hx,hlx⟩:=h1 j hj';obtain⟨b',o',oa',rfl,row',hr',ac',kc',hx',hlx'⟩:=h2 j hj';have hpl':=hpl _ (List.getElem_mem hj');generalize l[j]=x at *;subst hx;subst hx';have hk1:ZAq h b (o+j*3+0) 2=some (rowK x.1):=ZND hr;have hk2:ZAq h b' (o'+j*3+0) 2=some (rowK x.1):=ZND hr';have hs1:ZAa h b (o+j*3+2)=some (.slice ac x.2.length kc):=ZAN (k:=2) hr rfl;have hs2:ZAa h b' (o'+j*3+2)=some (.slice ac' x.2.length kc'):=ZAN (k:=2) hr' rfl;refine zy ?_;refine ZAS hmix [0,0,3,7,15,0,0,96,224,480,1023,2047,4095,4095,16383,32767,65535,4095,4095,397311,921599,1970175,4194303,8388607,16777215] [0,1,2,3,4,5,6,7,8,9,10,11,12,13,14,15,16,17,18,19,20,21] (some 22) [([23,24],none)] (by kernel_rfl) (by kernel_rfl) ?_
 refine z_m ?_;refine z_m ?_;refine ZAD rfl rfl rfl rfl rfl (fun _=>A_ix (k:=j) Und.h Tsz.h rfl rfl) ?_;refine z_f ?_;refine z_r ?_;refine z_m ?_;refine z_m ?_;refine ZAD rfl rfl rfl rfl rfl (fun _=>A_ix (k:=j) Und.h Tsz.h rfl rfl) ?_;refine z_f ?_;refine z_r ?_;refine ZAD rfl rfl rfl rfl rfl (fun _=>A_ff (show ¬¬x.1=x.1 from fun q=>q rfl) (ZNQ keyK rfl rfl keyG rfl rfl)) ?_;refine z_m ?_;refine g_m ?_;refine g_m ?_
 first|refine ZAg rfl rfl rfl rfl ?_|refine ZAD rfl rfl rfl rfl rfl (fun _=>A_ix (k:=j) Und.h Tsz.h rfl rfl) ?_
 refine g_f ?_;refine g_l ?_;refine g_m ?_;refine g_m ?_
 first|refine ZAg rfl rfl rfl rfl ?_|refine ZAD rfl rfl rfl rfl rfl (fun _=>A_ix (k:=j) Und.h Tsz.h rfl rfl) ?_
 refine g_f ?_;refine g_l ?_;refine ZAJ [0,1,2,3,4,5,6,7,8,9,10,11,12,13,14,15,16,17,18,19,20,21] (by kernel_rfl) rfl (ZAC rfl) rfl nb (dF (dF (dF (dF (dF (dF (dF (dF (dF (dF (dF (dF (dF (dF (dF (dF (dF (dF (dF (dF (dF (dF nF)))))))))))))))))))))) (ZAi rfl rfl rfl rfl rfl Bod.h (ZD5 hlx hlx' hpl') ?_);refine g_n ?_;refine z_p ?_;refine ZAV (ZAC rfl) nb' ?_;refine zy ?_;exact⟨j+1,(by show l.length-(j+1)<l.length-j;omega),rfl,rfl,hj',rfl,rfl,rfl,trivial⟩
section
variable {P:Program}{m:Mem}{h:Heap}{d:Option Tmp}{ty:TypeId}{pos:String}{af:Array Edge}{gu:Option (Nat×Bool)}{t tz el:TypeId}{x y:Operand}
theorem ZOl (hu:P.underlying t=some (.slice el))(hx:opk h m x=some (.slice none 0 0))(hy:opk h m y=some (.slice none 0 0)):Aop P ⟨d,.binOp .neq t x y tz,ty,pos,af,gu⟩ m h (.bool false) h :=
 ZCt hx hy rfl rfl rfl fun w=>by
  have h2:(eqGuard .neq t x y (.slice none 0 0) (.slice none 0 0)).run P w=.ok () w:=rfl;simp only[Sem.run_bind,h2,Result.andThen_ok]
  show (do pure (.bool (!(<-Op.equalIn (9999+1) t (.slice none 0 0) (.slice none 0 0)))):Sem Value).run P w=_
  simp only[Sem.run_bind,ZGP hu,Result.andThen_ok,Sem.run_pure]
  rfl
theorem ZPu {a:Addr}{n c:Nat}(hu:P.underlying t=some (.slice el))(hx:opk h m x=some (.slice (some a) n c))(hy:opk h m y=some (.slice none 0 0)):Aop P ⟨d,.binOp .neq t x y tz,ty,pos,af,gu⟩ m h (.bool true) h :=
 ZAf fun e hs=>by
  show pBin P _ h e .neq t x y=_
  unfold pBin;simp only[ZAK hs hx,ZAK hs hy];have:ZD3 P .neq t (.slice (some a) n c) (.slice none 0 0)=some (.bool true):=by
   unfold ZD3;rw[hu]
   rfl
  simp only[this]
end
set_option maxHeartbeats 1000000 in
theorem ZQw {σ:Type}{X:σ->List It}{h0:Heap}{c1 c2 bk cap:Nat}{a:Option Addr}{sp:Option Nat}{op:Bool}{s:List WkR}{ks:List Int}(hls:Len s)(hlk:Len ks)
  (hX:∀st,ceI c1 [.slice a s.length cap] 127 false∈X st/\ceI c2 [.slice (some ⟨bk,0,sp⟩) ks.length ks.length] 39 false∈X st/\ceI bk (ks.map i64) 3 op∈X st/\∃c,slI h0 (.slice a s.length c) 44 6 (s.flatMap rowW) s.length∈X st) :
  ZMd Tryz.prog 110 [.pointer (some ⟨c1,0,none⟩),.pointer (some ⟨c2,0,none⟩)] h0 X (ofK ks s) encW:=by
 intro l hL J hJ0 hJd hJe hy
 have hgot:∀{pre h'},J pre h'->Ext h0 h'/\h'.get c1=some (.cells [.slice a s.length cap] 127 false)/\h'.get c2=some (.cells [.slice (some ⟨bk,0,sp⟩) ks.length ks.length] 39 false)/\h'.get bk=some (.cells (ks.map i64) 3 op)/\ZAv 6 (fun _ row x=>row=rowW x) h' a s:=fun {pre h'} hJ=>by
  obtain⟨hE,st,R,hO⟩:=hJd pre h' hJ;obtain⟨x1,x2,x3,c,x4⟩:=hX st;have hF:ZAA h0 h' (.slice a s.length c) 44 6 (s.flatMap rowW) s.length:=hO.has _ (List.mem_append_left _ x4);obtain⟨a',e,hS,-⟩:=ZAA.rowsAt (enc:=rowW) (k:=6) (fun _=>rfl) hF rfl;simp only[Value.slice.injEq] at e;obtain⟨rfl,-,-⟩:=e;exact⟨hE,hO.has _ (List.mem_append_left _ x1),hO.has _ (List.mem_append_left _ x2),hO.has _ (List.mem_append_left _ x3),hS.1⟩
 refine ZAG Tryz.func110 rfl (by rw[Tryz.ntmps110];rfl) ?_;show Wc Tryz.prog ⟨110,23,none⟩ _ _ _ _ _;obtain⟨hE0,hg1,hg2,hg3,-⟩:=hgot hJ0;refine zy ?_;refine ZAQ (fun (i:Nat) m ds h'=>ds=[]/\i<=s.length/\J (ofK ks (s.take i)) h'/\AllK m [(0,.func (.yield l) ⟨[]⟩ ⟨[]⟩),(1,.pointer (some ⟨c1,0,none⟩)),(2,.pointer (some ⟨c2,0,none⟩)),(6,.slice a s.length cap),(7,i64 s.length),(8,i64 (i:Nat))]) (fun i=>s.length-i) 0 ?_ ?_
 ·exact⟨rfl,Nat.zero_le _,hJ0,rfl,rfl,rfl,rfl,rfl,rfl,trivial⟩
 clear hE0 hg1 hg2 hg3 hJ0;rintro i m ds h1 ⟨rfl,hi,hJ1,hall⟩;refine Wc.le ?_ (Le.kn hall);clear hall;refine zy ?_;refine ZAL rfl rfl rfl rfl (ZAY rfl rfl) (fun hil=>?_) (fun hil=>?_);rotate_left
 ·have:i=s.length:=by omega
  subst this;rw[List.take_length] at hJ1;refine zy ?_;exact ZAz rfl hJ1
 have hi':i<s.length:=by omega
 obtain⟨hE1,hg1,hg2,hg3,hR⟩:=hgot hJ1;obtain⟨b,o,oa,rfl,row,hrow,hx⟩:=hR i hi';have hx2:row=rowW s[i]:=hx;have htk:s.take (i+1)=s.take i++[s[i]]:=by rw[List.take_add_one,List.getElem?_eq_getElem hi'];rfl
 have hsp:s[i].kind∈ks->ofK ks s=ofK ks (s.take i)++s[i]::ofK ks (s.drop (i+1)):=fun hk=>by
  have:s=s.take i++(s[i]::s.drop (i+1)):=by rw[<-List.drop_eq_getElem_cons hi',List.take_append_drop]
  conv=>lhs;rw[this]
  unfold ofK;rw[List.filter_append,List.filter_cons,if_pos (decide_eq_true hk)]
 clear hx;have hof:ofK ks (s.take i++[s[i]])=ofK ks (s.take i)++if s[i].kind∈ks then [s[i]] else []:=by
  unfold ofK;rw[List.filter_append]
  congr 1
  by_cases q:s[i].kind∈ks <;> simp[q]
 have hint:ZAu i64 h1 (some ⟨bk,0,sp⟩) ks:=fun j hj=>⟨bk,0,sp,rfl,by
  rw[Nat.zero_add];exact ZAh hg3 (by rw[ZAr,Nat.mul_one,List.getElem?_map,List.getElem?_eq_getElem hj];rfl)⟩
 generalize s[i]=x at *;subst hx2;refine zy ?_;refine ZAB rfl rfl rfl rfl (A_ix Und.h Tsz.h rfl rfl) ?_;refine zy ?_;refine ZAO rfl rfl Zr.h Tsz.h rfl (fun _=>rfl) rfl rfl rfl fun h2 hE2 hW2 hg22 hn2=>?_;have k2:=hE2.get hg2;have hJ2:=hJe _ _ _ hJ1 hE2;have hin2:ZAu i64 h2 (some ⟨bk,0,sp⟩) ks:=hint.ext hE2;refine zy ?_;refine ZAR rfl rfl rfl rfl rfl Bod.h rfl rfl (ZDz (k:=x.kind) hin2 hlk) ?_
 by_cases hk:x.kind∈ks
 ·rw[if_pos hk] at hof
  rw[decide_eq_true hk];refine zy ?_;refine ZMo rfl rfl rfl rfl rfl rfl rfl (hy _ x _ h2 (hsp hk) hJ2) ?_;rintro _ h3 ⟨rfl,hJ3⟩;refine zy ?_;exact⟨i+1,(by show s.length-(i+1)<s.length-i;omega),rfl,hi',(by rw[htk,hof];exact hJ3),rfl,rfl,rfl,rfl,rfl,rfl,trivial⟩
 ·rw[if_neg hk,List.append_nil] at hof
  rw[decide_eq_false hk];refine zy ?_;exact⟨i+1,(by show s.length-(i+1)<s.length-i;omega),rfl,hi',(by rw[htk,hof];exact hJ2),rfl,rfl,rfl,rfl,rfl,rfl,trivial⟩
def clX (h0:Heap)(b2:Nat)(T:List It)(G:Value×List (Value×Cls)):List It:=clI h0 G.1 G.2::ceI b2 [G.1] 55 false::(G.2.map (cI h0)++T)
set_option maxHeartbeats 4000000 in
theorem ZNy {ad:Option Addr}{cap:Nat}{l:List WkR}{h:Heap}(hR:SrcK rowW 6 h ad l)(hn:ad=none->l=[]/\cap=0)(hf:∀x∈l,x.Fit)(hlen:Len l)(hL:WkLib h) :
  Sv Tryz.prog 36 [.slice ad l.length cap] h (RetP fun v h'=>(((chkS l).2≠0/\v=.tuple ⟨[.slice none 0 0,i64 (chkS l).2]⟩)\/((chkS l).2=0/\∃a k,v=.tuple ⟨[.slice a (clsL (ZAW (mrgU ltW l)) (ZAW (mrgU ltW l))).length k,i64 0]⟩/\ZAv 3 ClsR h' a (clsL (ZAW (mrgU ltW l)) (ZAW (mrgU ltW l)))))/\Ext h h'):=by
 refine ZCo fun hw=>?_;have hcl:=ZCB (l:=l)
 have hcg:(chkS l).2=0->∀x∈ZAW (mrgU ltW l),ZAw x=0:=fun hc=>by
  have h1:=ZCB hc;have h2:=ZCh (l:=l) (i:=0) (by unfold chkS at hc;rw[if_neg (by omega)] at hc;exact hc);exact fun x hx=>h2 x (ZCZ hx)
 have hsl:(ZAW (mrgU ltW l)).length<=l.length:=ZEA l;have hsf:∀x∈ZAW (mrgU ltW l),x.Fit:=fun x hx=>hf x (ZCZ hx);refine ZAG Tryz.func36 rfl (by rw[Tryz.ntmps36];rfl) ?_;show Wc Tryz.prog ⟨36,40,none⟩ _ _ _ _ _;refine zy ?_;refine ZCC rfl rfl Zr.h fun h1 hE1 hW1 hg1 hn1=>?_;have hO1:=(Own.nil h h).newCe hw (Nat.le_refl _) hE1 hg1 (Nat.le_refl _);generalize h.nx=b2 at hO1 hg1 ⊢;refine zy ?_;refine ZAI rfl rfl rfl rfl rfl Bod.h rfl rfl (ZM2 (hR.ext hE1) hn hf hlen (hL.ext hE1)) ?_;rintro v h2 ⟨hOp,hE12⟩;have hO2:=hO1.ext hE12;have hE2:=hE1.trans hE12
 rcases hOp with ⟨hc,rfl⟩|⟨hc,vs,vf,rfl,hFs,-⟩
 ·refine zy ?_
  refine ZAB rfl rfl rfl rfl (A_tt hc (ZBF rfl rfl)) ?_;refine zy ?_;refine ZE6 hw hE2 rfl Tsz.h rfl rfl hO2 rfl rfl rfl fun h3 hW3 hO3 hE3=>?_;have hg3:h3.get b2=some (.cells [.slice none 0 0] 55 false):=hO3.p1;refine zy ?_;exact ZAE (ZAF (vs:=[.slice none 0 0,i64 (chkS l).2]) (ZDI rfl (ZIp OneC.h (ZAh hg3 rfl)) (ZM5 rfl rfl)) ⟨.inl ⟨hc,rfl⟩,hE3⟩)
 replace hcg:=hcg hc;replace hcl:=hcl hc;have hO2s:=hO1.newSl hW1 hE1.2.1 hE12 hFs;generalize ZAW (mrgU ltW l)=S at *;obtain⟨aS,rfl,hS2,-⟩:=ZAA.rowsAt (enc:=rowW) (k:=6) (fun _=>rfl) hFs rfl;have hnl:(nodW S).length<=10000:=Nat.le_trans (ZEj S) (by omega);have hne:=ZJ6 hcg;refine zy ?_;refine ZAB rfl rfl rfl rfl (A_ff (fun q=>q rfl) (ZBF rfl rfl)) ?_;refine zy ?_;refine ZBO fun hW2=>?_;refine ZAI rfl rfl rfl rfl rfl Bod.h rfl rfl (ZPo hS2 hsf (by omega)) ?_;rintro _ h3 ⟨hE23,bm,rfl,gw,D,hOw,hon,hk1,hk2⟩;have hO3:=hO2s.join hW2 hE2.2.1 hE23 hOw;have hE3:=hE2.trans hE23;generalize hDL:D.map (fun d=>liI d.2.1 (nxtW S d.1))=DL at hO3
 refine zy ?_;refine ZBO fun hW3=>?_;refine ZCC rfl rfl Zr.h fun h4 hE34 hW4 hg4 hn4=>?_;have hO4:=hO3.newCe hW3 hE3.2.1 hE34 hg4 (Nat.le_refl _);have hE4:=hE3.trans hE34;generalize h3.nx=b6 at hO4 hg4 ⊢;refine zy ?_;refine ZE6 hw hE4 rfl Tsz.h rfl rfl hO4 rfl rfl rfl fun h5 hW5 hO5 hE5=>?_;clear hO4 hO3 hO2s hO2 hO1 hE4 hE34 hE3 hE23 hOw hS2 hg4 hg1 hE2 hE12 hE1 hFs;refine zy ?_;refine ZBa rfl rfl Und.h Tsz.h Zr.h rfl rfl rfl rfl rfl fun h6 hE56 hW6 hg6 hn6=>?_;have hO6:=hO5.newCe hW5 hE5.2.1 hE56 hg6 (Nat.le_refl _);have hE6:=hE5.trans hE56;generalize h5.nx=bk at hO6 hg6 ⊢;refine zy ?_;refine ZAI rfl rfl rfl rfl rfl Bod.h rfl rfl ZL4 ?_
 rintro _ h7 ⟨c1,c2,rfl,hE67,hI7⟩;have hO7:=hO6.join hW6 hE6.2.1 hE67 hI7;have hE7:=hE6.trans hE67;clear hO6 hO5 hE6 hE5 hE56 hE67 hI7 hg6 hn6;refine zy ?_;obtain⟨T,hT⟩:∃T,T=[ceI c1 [.slice aS S.length S.length] 127 false,ceI c2 [.slice (some ⟨bk,0,none⟩) 1 1] 39 false]++(ceI bk [i64 3] 3 false::ceI b6 [.map (some bm)] 133 false::(mapI strK bm gw::DL++[slI h (.slice aS S.length S.length) 44 6 (S.flatMap rowW) S.length])):=⟨_,rfl⟩;have hO8:Own h h7 (T++[ceI b2 [.slice none 0 0] 55 false]):=by
  have h1:Own h h7 ([ceI c1 [.slice aS S.length S.length] 127 false,ceI c2 [.slice (some ⟨bk,0,none⟩) 1 1] 39 false]++(ceI bk [i64 3] 3 false::ceI b6 [.map (some bm)] 133 false::(mapI strK bm gw::DL++[slI h (.slice aS S.length S.length) 44 6 (S.flatMap rowW) S.length,ceI b2 [.slice none 0 0] 55 false]))):=hO7;rw[hT]
  simpa only[List.append_assoc,List.cons_append,List.nil_append] using h1
 have hO9:Own h h7 (clX h b2 T (.slice none 0 0,[])):=(hO8.perm (List.perm_append_singleton _ _)).nilSl _ _;clear hO7 hO8;have m1:ceI c1 [.slice aS S.length S.length] 127 false∈T:=by rw[hT];simp
 have m2:ceI c2 [.slice (some ⟨bk,0,none⟩) 1 1] 39 false∈T:=by rw[hT];simp
 have m3:ceI bk [i64 3] 3 false∈T:=by rw[hT];simp
 have m4:ceI b6 [.map (some bm)] 133 false∈T:=by rw[hT];simp
 have m5:mapI strK bm gw∈T:=by rw[hT];simp
 have m6:slI h (.slice aS S.length S.length) 44 6 (S.flatMap rowW) S.length∈T:=by rw[hT];simp
 have m7:∀x∈DL,x∈T:=fun x hx=>by rw[hT];simp[hx]
 have hWeb:∀h',(∀x∈T,x.p h')->ZNh h' bm S:=fun h' hp=>⟨gw,hp _ m5,hon,hk1,fun k hk=>by
  obtain⟨d,hd,rfl,e⟩:=hk2 k hk;exact⟨d.2.1,d.2.2,e,hp (liI d.2.1 (nxtW S d.1)) (m7 _ (by rw[<-hDL];exact List.mem_map.2 ⟨d,hd,rfl⟩))⟩⟩
 clear hT hk2 hk1 hon hDL;refine ZCl (q:=7) (X:=clX h b2 T) (ok:=fun pre G=>G.2.map Prod.snd=pre.flatMap (clF S)) (L:=ofK [3] S) (enc:=encW) (cs:=rowW) (el:=44) (op:=false) (s0:=(.slice none 0 0,[])) rfl rfl Bod.h rfl hw hE7 hO9 rfl (ZQw (a:=aS) (c1:=c1) (c2:=c2) (bk:=bk) (cap:=S.length) (sp:=none) (op:=false) (ks:=[3]) (show _<_ by omega) (show (1:Nat)<_ by decide) fun st=>⟨List.mem_cons_of_mem _ (List.mem_cons_of_mem _ (List.mem_append_right _ m1)),List.mem_cons_of_mem _ (List.mem_cons_of_mem _ (List.mem_append_right _ m2)),List.mem_cons_of_mem _ (List.mem_cons_of_mem _ (List.mem_append_right _ m3)),S.length,List.mem_cons_of_mem _ (List.mem_cons_of_mem _ (List.mem_append_right _ m6))⟩) (fun l x h'=>?_) (fun l bn pre x post G h8 R hsp hok hO hE8=>?_) (fun G8 h8 hok8 hO8' hE8=>?_)
 ·refine ZBe ?_
  refine ZAO rfl rfl Zr.h Tsz.h rfl (fun _=>rfl) rfl rfl rfl fun h8 hE8 hW8 hg8 hn8=>?_;exact ZED ⟨rfl,rfl,rfl,hE8,hg8⟩
 ·obtain⟨hpl,hxs,hxk⟩:=ZJC hsp
  have hx3:x.kind=3:=by simpa using hxk
  have hgn:h8.get bn=some (.cells (rowW x) 44 false):=hO.p1;have hg6:h8.get b6=some (.cells [.map (some bm)] 133 false):=hO.has (ceI b6 [.map (some bm)] 133 false) (List.mem_cons_of_mem _ (List.mem_append_left _ (List.mem_cons_of_mem _ (List.mem_cons_of_mem _ (List.mem_append_right _ m4)))));have hWb:=hWeb h8 fun y hy=>hO.has y (List.mem_cons_of_mem _ (List.mem_append_left _ (List.mem_cons_of_mem _ (List.mem_cons_of_mem _ (List.mem_append_right _ hy)))));have hGl:G.2.length<=200:=by
   have:=congrArg List.length hok;rw[List.length_map] at this;have h1:(pre.flatMap (clF S)).length<=pre.length:=by
    clear hok hO hsp hpl this
    induction pre with
    | nil=>exact Nat.le_refl _
    | cons y pre ih =>
     rw[List.flatMap_cons,List.length_append,List.length_cons];have:(clF S y).length<=1:=by unfold clF;split <;> simp
     omega
   omega
  have hokn:∀G':Value×List (Value×Cls),G'.2.map Prod.snd=pre.flatMap (clF S)++clF S x->G'.2.map Prod.snd=(pre++[x]).flatMap (clF S):=fun G' e=>by
   rw[List.flatMap_append,List.flatMap_singleton];exact e
  obtain⟨v2,C⟩:=G;simp only at hok hGl;refine zy ?_;refine ZBO fun hW8=>?_;refine ZAI rfl rfl rfl rfl rfl Bod.h rfl rfl (ZNZ (b:=x.b) hWb (ZJG hxs hx3) hne hnl) ?_;rintro v9 h9 ⟨hE9,hF9,hnil⟩;unfold clF at hokn;generalize ZBW (nxtW S) x.a x.b (nodW S).length=P at *;have hE89:=hE8.trans hE9;have hO9:=hO.ext hE9;refine zy ?_
  by_cases hP:P=[]
  ·rw[if_pos hP] at hokn
   obtain rfl:=hnil.resolve_right (fun q=>q hP);refine ZAB rfl rfl rfl rfl (ZOl Und.h rfl rfl) ?_;refine zy ?_;exact⟨rfl,(v2,C),hokn _ (by rw[List.append_nil];exact hok),hO9.tail,hE89⟩
  rw[if_neg hP] at hokn;have hPl:0<P.length:=List.length_pos_iff.2 hP;obtain⟨bp,sp,op,rfl,-⟩:=hF9.blk hPl;refine ZAB rfl rfl rfl rfl (ZPu Und.h rfl rfl) ?_;have hOp:=hO.newSl hW8 hE8.2.1 hE9 hF9;have hg2:h9.get b2=some (.cells [v2] 55 false):=hO9.has (ceI b2 [v2] 55 false) (List.mem_cons_of_mem _ (List.mem_append_left _ (List.mem_cons_of_mem _ List.mem_cons_self)));have hgn9:=hE9.get hgn;refine zy ?_;refine ZAS hmix [0,0,2,0,14,30,63,127] [0,1,3] (some 2) [([4,5],(some 6)),([],(some 7)),([],none)] (by kernel_rfl) (by kernel_rfl) ?_;refine z_l ?_;refine z_r ?_;refine z_m ?_;refine ZAJ [1] (by kernel_rfl) rfl (ZAC rfl) rfl nb (kF (dF (kF nF))) (ZBM (ZAe rfl rfl rfl rfl rfl Bod.h (ZMl x _) (fun h10 hE10 hw10=>?_)))
  have hO10:=(hOp.ext hE10).up3;have hE10':=hE89.trans hE10;have hg210:=hE10.get hg2;have hgn10:=hE10.get hgn9;refine z_b ?_;refine ZCy (nk:=.sl _ _) rfl rfl rfl rfl rfl (fun _ _ hs=>N_bs hs Und.h Tsz.h Zr.h rfl rfl rfl rfl rfl) ?_;have hEa:=Ext.add hw10 (.cells (rowC (.slice (some ⟨bp,0,sp⟩) P.length P.length,x.key,P)) 62 false);have hg2a:=hEa.get hg210;have hgna:=hEa.get hgn10;refine ZAJ (h1:=(Heap.add h10 _)) [0,1,2,3,4,5] (by kernel_rfl) rfl (by refine t_m 3 ?_;refine t_l 0 ?_;exact ZAC rfl) rfl rfl (dF (dF (dF (dF nF)))) (ZBM (ZBE (by':=48) (sz:=3) (k:=1) (n:=C.length) (l:=rowC (.slice (some ⟨bp,0,sp⟩) P.length P.length,x.key,P)) rfl hw (hE10'.trans hEa) rfl rfl rfl rfl Und.h inferInstance rfl rfl (hO10.ext hEa) ((ZAA.lit (h0:=h) (n:=1) (sz:=3) Heap.get_add_same rfl hE10'.2.1).src (dd:=.slice 62) Und.h (by intro k;simp)) rfl rfl (by omega) (by omega) (fun v12 h12 hO12 hE12 hw12=>?_)))
  have hg212:h12.get b2=some (.cells [v2] 55 false):=hO12.p4;have hgn12:h12.get bn=some (.cells (rowW x) 44 false):=hO12.p3;obtain⟨a12,e12,-⟩:=ZAA.is (show ZAA h h12 v12 62 3 _ _ from hO12.p1);subst e12;refine ZAJ (h1:=h12) [0,1,2,3,4,5,6] (by kernel_rfl) rfl (ZAC rfl) rfl rfl nF (ZBM (ZO9 rfl hw hE12 rfl Tsz.h rfl rfl hO12.up4 rfl rfl rfl (fun h13 hO13 hE13 hw13=>?_)));refine ZAV (ZAC rfl) rfl ?_;refine zy ?_;refine⟨rfl,(.slice a12 (C.length+1) (C.length+1),C++[(.slice (some ⟨bp,0,sp⟩) P.length P.length,x.key,P)]),hokn _ ?_,?_,hE13⟩
  ·simp only
   rw[List.map_append,hok];rfl
  ·have el:clI h (.slice a12 (C.length+1) (C.length+1)) (C++[(.slice (some ⟨bp,0,sp⟩) P.length P.length,x.key,P)])=slI h (.slice a12 (C.length+1) (C.length+1)) 62 3 (C.flatMap rowC++rowC (.slice (some ⟨bp,0,sp⟩) P.length P.length,x.key,P)) (C.length+1):=by
    unfold clI;rw[List.flatMap_append,List.length_append];rfl
   have h1:Own h h13 (ceI b2 [.slice a12 (C.length+1) (C.length+1)] 55 false::clI h (.slice a12 (C.length+1) (C.length+1)) (C++[(.slice (some ⟨bp,0,sp⟩) P.length P.length,x.key,P)])::cI h (.slice (some ⟨bp,0,sp⟩) P.length P.length,x.key,P)::ceI bn (rowW x) 44 false::((C.map (cI h)++T)++R)):=by
    rw[el];exact hO13
   have h2:=h1.sub (l':=ceI b2 [.slice a12 (C.length+1) (C.length+1)] 55 false::clI h (.slice a12 (C.length+1) (C.length+1)) (C++[(.slice (some ⟨bp,0,sp⟩) P.length P.length,x.key,P)])::cI h (.slice (some ⟨bp,0,sp⟩) P.length P.length,x.key,P)::((C.map (cI h)++T)++R)) (List.Sublist.cons_cons _ (List.Sublist.cons_cons _ (List.Sublist.cons_cons _ (List.Sublist.cons _ (List.Sublist.refl _)))));have h3:=h2.up2;unfold clX;simp only[List.map_append,List.map_cons,List.map_nil,List.append_assoc,List.cons_append,List.nil_append] at h3 ⊢;exact h3.perm (List.Perm.cons _ (List.Perm.cons _ List.perm_middle.symm))
 obtain⟨v2,C⟩:=G8;have hokC:C.map Prod.snd=clsL S S:=by rw[<-ZQb];exact hok8
 have hcol:Own h h8 (loI h7.nx .defd::ceI b2 [v2] 55 false::clI h v2 C::(C.map (cI h)++T)):=hO8'.perm (List.Perm.cons _ (List.Perm.swap _ _ _));clear hO8' hok8 hO9 hWeb;generalize h7.nx=r7 at hcol ⊢;have hg2:h8.get b2=some (.cells [v2] 55 false):=hcol.p2;have hcc:=hcol.up2;refine zy ?_;obtain⟨a2,e2,-⟩:=ZAA.is (show ZAA h h8 v2 62 3 (C.flatMap rowC) C.length from hcol.p3);subst e2;refine ZE6 hw hE8 rfl Tsz.h rfl rfl hcc rfl rfl rfl fun h9 hW9 hO9 hE9=>?_;have hO10:Own h h9 ([r7].map (fun r=>loI r .defd)++(ceI b2 [.slice a2 C.length C.length] 55 false::clI h (.slice a2 C.length C.length) C::(C.map (cI h)++T))):=hO9.up2
 have hcl:=hO10.colls;have hOd:=hO10.del;have hgd:(delL h9 [r7]).get b2=some (.cells [.slice a2 C.length C.length] 55 false):=hOd.p1;obtain⟨a2',hv2,hrows⟩:=ZPN hOd.tail;cases hv2;rw[hokC] at hrows;have hlC:C.length=(clsL S S).length:=by rw[<-hokC,List.length_map]
 refine zy ?_;exact ZAE (ZI1 (vs:=[.slice a2 C.length C.length,i64 0]) hcl.nd hcl.defd (ZDI rfl (ZIp OneC.h (ZAh hgd rfl)) (ZM5 rfl rfl)) ⟨.inr ⟨hc,a2,C.length,by rw[hlC];rfl,hrows⟩,hcl.ext0 hE9 hw⟩)
end Go.Dw
