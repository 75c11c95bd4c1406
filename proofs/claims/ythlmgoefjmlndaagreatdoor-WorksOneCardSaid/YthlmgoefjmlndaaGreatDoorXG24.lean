/- M4: WorksSames. -/
import Derived.Test.YthlmgoefjmlndaaGreatDoorXG2
import Derived.Test.YthlmgoefjmlndaaGreatDoorXG23
import Derived.Test.YthlmgoefjmlndaaGreatDoorXG22
import Derived.Test.YthlmgoefjmlndaaGreatDoorXG17
import Derived.Test.YthlmgoefjmlndaaGreatDoorXG21
set_option linter.unusedVariables false
set_option linter.unusedSimpArgs false
namespace Go.Dw
open Go Go.Dx Go.Proofs
set_option maxRecDepth 100000
def lnkA (x:WkR):Str:=if x.kind=1 then 35::x.a else x.a
def lnkP (x:WkR)(u v:Str):Prop:=(x.kind=1\/x.kind=2)/\((lnkA x=u/\x.b=v)\/(x.b=u/\lnkA x=v))
instance (x:WkR)(u v:Str):Decidable (lnkP x u v):=by unfold lnkP;infer_instance
def prvP (s:List WkR)(p:List Str):Prop:=p≠[]/\p.Nodup/\chnP (nxtW s) p
structure ZSi (s:List WkR)(p:List Str)(i:Nat):Prop where
 nd:∀j k (hj:j<i) (hk:k<j) (h:j<p.length),p[k]'(Nat.lt_trans hk h)≠p[j]
 ch:∀j (h0:0<j) (hj:j<i) (h:j<p.length),p[j]∈nxtW s (p[j-1]'(by omega))
theorem ZSi.all {s:List WkR}{p:List Str}(h:ZSi s p p.length)(h0:p≠[]):prvP s p:=by
 refine⟨h0,List.pairwise_iff_getElem.2 fun i j hi hj hij=>h.nd j i hj hij hj,fun i x y hx hy=>?_⟩;obtain⟨h1,rfl⟩:=List.getElem?_eq_some_iff.1 hx;obtain⟨h2,rfl⟩:=List.getElem?_eq_some_iff.1 hy;exact h.ch (i+1) (Nat.succ_pos _) h2 h2
noncomputable instance (s:List WkR)(p:List Str):Decidable (prvP s p):=Classical.propDecidable _
def fndP (s:List WkR)(k n:Nat)(u v:Str):Prop:=k=0\/∃x∈s.take n,lnkP x u v
noncomputable instance (s:List WkR)(k n:Nat)(u v:Str):Decidable (fndP s k n u v):=Classical.propDecidable _
end Go.Dw
namespace Go.Dw
open Go Go.Dx Go.Proofs
set_option maxRecDepth 100000
structure PrOK (W:List WkO)(i k:Nat)(PR:List (Str×Nat)):Prop where
 fst:PR.map Prod.fst=(W.take i).flatMap (fun w=>w.1)++((W[i]?.map fun w=>w.1).getD []).take k
 at_:∀e∈PR,∃w,W[e.2]?=some w/\e.1∈w.1
structure NmOK (S:List WkR)(j:Nat)(N:List Str):Prop where
 nd:N.Nodup
 is:∀k,k∈N ↔ ∃x∈S.take j,x.kind=1/\x.a=k
theorem NmOK.skip {S:List WkR}{j:Nat}{N:List Str}{x:WkR}(h:NmOK S j N)(ht:S.take (j+1)=S.take j++[x])(hx:x.kind≠1):NmOK S (j+1) N:=⟨h.nd,fun k=>by
 rw[h.is,ht]
 constructor
 ·rintro⟨y,hy,q⟩;exact⟨y,List.mem_append_left _ hy,q⟩
 ·rintro⟨y,hy,q1,q2⟩
  rcases List.mem_append.1 hy with hy|hy
  ·exact⟨y,hy,q1,q2⟩
  ·rw[List.mem_singleton.1 hy] at q1;exact absurd q1 hx⟩
theorem NmOK.same {S:List WkR}{j:Nat}{N:List Str}{x:WkR}(h:NmOK S j N)(ht:S.take (j+1)=S.take j++[x])(hx:x.a∈N):NmOK S (j+1) N:=⟨h.nd,fun k=>by
 rw[ht]
 constructor
 ·intro hk
  obtain⟨y,hy,q⟩:=(h.is k).1 hk;exact⟨y,List.mem_append_left _ hy,q⟩
 ·rintro⟨y,hy,q1,q2⟩
  rcases List.mem_append.1 hy with hy|hy
  ·exact (h.is k).2 ⟨y,hy,q1,q2⟩
  ·rw[List.mem_singleton.1 hy] at q2;rw[<-q2];exact hx⟩
theorem NmOK.add {S:List WkR}{j:Nat}{N:List Str}{x:WkR}(h:NmOK S j N)(ht:S.take (j+1)=S.take j++[x])(h1:x.kind=1)(hx:x.a ∉ N):NmOK S (j+1) (N++[x.a]):=⟨by
 rw[List.nodup_append];exact⟨h.nd,by simp,fun a ha b hb e=>hx (by rw[List.mem_singleton] at hb;rw[<-hb,<-e];exact ha)⟩,fun k=>by
 rw[ht,List.mem_append,List.mem_singleton,h.is]
 constructor
 ·rintro (⟨y,hy,q⟩|rfl)
  ·exact⟨y,List.mem_append_left _ hy,q⟩
  ·exact⟨x,by simp,h1,rfl⟩
 ·rintro⟨y,hy,q1,q2⟩
  rcases List.mem_append.1 hy with hy|hy
  ·exact .inl ⟨y,hy,q1,q2⟩
  ·rw[List.mem_singleton.1 hy] at q2;exact .inr q2.symm⟩
end Go.Dw
namespace Go.Dw
open Go Go.Dx Go.Proofs
set_option maxRecDepth 100000
theorem ZH4:∀(l:List WkR)(i:Nat),(∀x∈l,ZAt x=0)->ZFA i l=(0,0)
 | [],_,_=>rfl
 | x::l,i,h=>by
  rw[ZFA,if_neg (fun q=>q (h x List.mem_cons_self))];exact ZH4 l _ fun y hy=>h y (List.mem_cons_of_mem _ hy)
theorem ZIu {l:List WkR}(h1:l.length<=200)(h2:∀x∈l,ZAt x=0):chkS l=(0,0):=by
 unfold chkS;rw[if_neg (by omega)];exact ZH4 l 0 h2
theorem ZQ0 {L:List (List WkR)}(h:(ZBl L).2=0):L.length<=8/\(∀l∈L,(chkS l).2=0)/\(ZBl L).1=mrgU ltW L.flatten/\(mrgU ltW L.flatten).length<=200:=by
 unfold ZBl at h ⊢
 by_cases h1:8<L.length
 ·rw[if_pos h1] at h;exact absurd h (by decide)
 rw[if_neg h1] at h ⊢
 by_cases h2:mrgE L≠0
 ·rw[if_pos h2] at h;exact absurd h h2
 rw[if_neg h2] at h ⊢
 by_cases h3:200<(mrgU ltW L.flatten).length
 ·rw[if_pos h3] at h;exact absurd h (by decide)
 rw[if_neg h3];refine⟨by omega,fun l hl=>?_,rfl,by omega⟩;apply Decidable.byContradiction;intro hne;apply h2;unfold mrgE
 cases hf:(L.map fun l=>(chkS l).2).find? fun e=>decide (e≠0) with
 | none=>exact absurd (List.find?_eq_none.1 hf _ (List.mem_map.2 ⟨l,hl,rfl⟩)) (by simpa using hne)
 | some e =>
  have:=List.find?_some hf
  simpa using this
theorem ZMO {L:List (List WkR)}(h:(ZBl L).2≠0\/L=[]):(ZBl L).1=[]:=by
 rcases h with h|rfl
 ·unfold ZBl at h ⊢
  split
  ·rfl
  ·rename_i h1
   rw[if_neg h1] at h
   split
   ·rfl
   ·rename_i h2
    rw[if_neg h2] at h
    split
    ·rfl
    ·rename_i h3
     rw[if_neg h3] at h;exact absurd rfl h
 ·rfl
theorem ZD0 {L:List (List WkR)}{M:List WkR}(h8:L.length<=8)(hc:∀l∈L,(chkS l).2=0)(hm:∀x,x∈M ↔ x∈L.flatten)(hu:M.Pairwise ltW)(hl:M.length<=200):ZBl L=(M,0):=by
 have e:=ZIy ZAg hu hm;unfold ZBl;rw[if_neg (by omega),if_neg (by rw[ZKb hc];exact fun q=>q rfl),<-e,if_neg (by omega)]
theorem ZFn {l:List WkR}(h1:l.length<=200)(h2:∀x∈l,ZAt x=0):(chkS l).2=0:=by rw[ZIu h1 h2]
theorem ZR7 {k n j:Nat}(hk:k<n)(hj:j<n):∃t,t<n/\(k+t) % n=j:=by
 rcases Nat.lt_or_ge j k with h|h
 ·exact⟨j+n-k,by omega,by rw[show k+(j+n-k)=j+n by omega,Nat.add_mod_right,Nat.mod_eq_of_lt hj]⟩
 ·exact⟨j-k,by omega,by rw[show k+(j-k)=j by omega,Nat.mod_eq_of_lt hj]⟩
theorem ZQT {h:Heap}{b o n:Nat}{row:List Value}(hr:ZAj h b o n=some row):ZAj h b o 0=some []:=by
 unfold ZAj at hr ⊢
 cases hg:h.get b with
 | none=>rw[hg] at hr;cases hr
 | some x =>
  rw[hg] at hr
  cases x with
  | cells vs el op =>
   have:=(ZCb hr).1
   show cut vs o 0=some []
   rw[ZCP (by omega)];simp
  | ro lim ob =>
   cases ob with
   | cells c _ _ =>
    simp only[rdo] at hr ⊢
    cases hc:cut c.toList o n with
    | none=>rw[hc] at hr;cases hr
    | some l =>
     have:=(ZCb hc).1;rw[ZCP (n:=0) (by omega)];simp
   | _=>cases hr
  | _=>cases hr
theorem SrcK.takeS {h:Heap}{a:Option Addr}{l:List WkR}(hS:SrcK rowW 6 h a l)(n:Nat):SrcK rowW 6 h a (l.take n):=by
 refine⟨ZAh.take hS.1 n,fun _=>?_⟩
 rcases Nat.eq_zero_or_pos l.length with h0|h0
 ·exact hS.2 (List.eq_nil_of_length_eq_zero h0)
 ·obtain⟨b,o,oa,rfl,row,hr,-⟩:=hS.1 0 h0
  rw[Nat.zero_mul,Nat.add_zero] at hr;exact .inr (.inr ⟨b,o,oa,rfl,ZQT hr⟩)
def bkI (h0:Heap)(d:Value×List WkR):It:=slI h0 d.1 44 6 (d.2.flatMap rowW) d.2.length
def otI (h0:Heap)(v:Value)(D:List (Value×List WkR)):It:=slI h0 v 22 1 (D.map Prod.fst) D.length
theorem ZJT:∀D:List (Value×List WkR),D.map Prod.fst=D.flatMap fun d=>[d.1]
 | []=>rfl
 | d::D=>by rw[List.map_cons,List.flatMap_cons,ZJT D];rfl
theorem ZLL {h0 h:Heap}{v:Value}{D:List (Value×List WkR)}(hF:ZAA h0 h v 22 1 (D.map Prod.fst) D.length)(hD:∀d∈D,CatR h [d.1] d.2):∃a,v=.slice a D.length D.length/\ZAh 1 CatR h a (D.map Prod.snd):=by
 rw[ZJT] at hF;obtain⟨a,ea,hS,-⟩:=ZAA.rowsAt (enc:=fun d:Value×List WkR=>[d.1]) (k:=1) (fun _=>rfl) hF rfl;refine⟨a,ea,fun i hi=>?_⟩;rw[List.length_map] at hi;obtain⟨b,o,oa,e1,row,hr,hx⟩:=hS.1 i hi;have hx2:row=[D[i].1]:=hx;refine⟨b,o,oa,e1,row,hr,?_⟩;rw[List.getElem_map,hx2];exact hD _ (List.getElem_mem hi)
theorem ZLK {h0 h:Heap}{T:It}{D:List (Value×List WkR)}(hO:Own h0 h (T::D.map (bkI h0))):∀d∈D,CatR h [d.1] d.2:=fun d hm=>by
 have h1:ZAA h0 h d.1 44 6 (d.2.flatMap rowW) d.2.length:=hO.has (bkI h0 d) (List.mem_cons_of_mem _ (List.mem_map.2 ⟨d,hm,rfl⟩));obtain⟨a1,e1',s1,-⟩:=ZAA.rowsAt (enc:=rowW) (k:=6) (fun _=>rfl) h1 rfl;exact⟨a1,d.2.length,by rw[e1'],s1⟩
theorem ZR6 {h0 h:Heap}{v:Value}{l:List WkR}{k:Nat}(hF:ZAA h0 h v 44 6 (l.flatMap rowW) l.length)(hk:k<l.length):∃a' c',(∀h',ZAA h0 h' v 44 6 (l.flatMap rowW) l.length->SrcK rowW 6 h' a' (l.drop k))/\∀{h:Heap}{m:Mem}{d':Option Tmp}{ty:TypeId}{pos:String}{af:Array Edge}{gu:Option (Nat×Bool)}{x i:Operand},opk h m x=some v->opk h m i=some (i64 (k:Nat))->Aop Tryz.prog ⟨d',.slice 22 x (some i) none none,ty,pos,af,gu⟩ m h (.slice a' (l.length-k) c') h:=by
 rcases hF with ⟨-,-,hz⟩|⟨b,sp,op,rfl,-,-,-,hsp⟩
 ·omega
 obtain⟨a',c',hfr,hA⟩:=ZGy (z:=5) (P:=Tryz.prog) (t:=22) (el:=44) (b:=b) (n:=l.length) (k:=k) (sp:=sp) (kj:=.i64) Und.h Tsz.h hsp (by omega);obtain⟨o1,rfl,rfl⟩:=hfr hk;refine⟨_,c',fun h' hF'=>⟨fun i hi=>?_,fun e=>?_⟩,fun hx hi=>hA hx hi⟩
 ·rcases hF' with ⟨e,-,-⟩|⟨b',sp',op',e,hg,-,-,-⟩
  ·cases e
  ·cases e
   rw[List.length_drop] at hi;refine⟨b,_,sp,rfl,_,?_,rfl⟩;unfold ZAj;rw[hg]
   show cut (l.flatMap rowW) (k*(5+1)+i*6) 6=_
   rw[show k*(5+1)+i*6=(k+i)*6 by omega,List.getElem_drop];exact ZBQ (by omega) fun _ _=>rfl
 ·have:=congrArg List.length e
  rw[List.length_drop,List.length_nil] at this;omega
theorem ZHd {P:Program}{m:Mem}{h:Heap}{d:Option Tmp}{ty:TypeId}{pos:String}{af:Array Edge}{gu:Option (Nat×Bool)}{t tz:TypeId}{x y:Operand}{a b:Nat}(hx:opk h m x=some (i64 (a:Nat)))(hy:opk h m y=some (i64 (b:Nat)))(hb:0<b):Aop P ⟨d,.binOp .rem t x y tz,ty,pos,af,gu⟩ m h (i64 ((a % b:Nat):Int)) h:=by
 have e:((a % b:Nat):Int)=((a:Nat):Int).tmod ((b:Nat):Int):=rfl;rw[e];exact ZTF hx hy (by omega)
set_option maxHeartbeats 16000000 in
theorem ZKr {a:Option Addr}{c:Nat}{L:List (List WkR)}{x y:Int}{h:Heap}(hL:ZAh 1 CatR h a L)(hlen:Len L)(hf:∀l∈L,l.length*72<=140737488351232/\∀x∈l,x.Fit)(hW:WkLib h)(hx:0<=x/\x<256)(hy:0<=y/\y<256) :
  Sv Tryz.prog 15 [.slice a L.length c,.int .u8 x,.int .u8 y] h (RetP fun v h'=>v=.bool true/\Ext h h'):=by
 obtain⟨xn,rfl⟩:=Int.eq_ofNat_of_zero_le hx.1;obtain⟨yn,rfl⟩:=Int.eq_ofNat_of_zero_le hy.1;have hwx:IntKind.i64.wrap (xn:Int)=(xn:Int):=IntWalk.i64_in _ (by omega);have hwy:IntKind.i64.wrap (yn:Int)=(yn:Int):=IntWalk.i64_in _ (by omega);refine ZAE Tryz.func15 rfl (by rw[Tryz.ntmps15];rfl) ?_;show Wc Tryz.prog ⟨15,153,none⟩ _ _ _ _ _;refine zy ?_;refine ZAJ rfl rfl rfl rfl rfl Bod.h rfl rfl (ZKR hL hlen hf hW) ?_;rintro _ h1 ⟨⟨aM,cM,rfl,hSM,hTM⟩,hE1⟩;refine zy ?_
 by_cases he:(ZBl L).2=0
 rotate_left
 ·have hno:=ZMO (.inl he)
  refine ZAB rfl rfl rfl rfl (A_tt he (ZCH rfl rfl)) ?_;refine zy ?_;refine ZAB rfl rfl rfl rfl (A_tt (by rw[hno];rfl) (ZA0 rfl rfl)) ?_;refine zy ?_;refine ZAT rfl rfl rfl rfl rfl Bod.h rfl rfl (ZC0 (hW.ext hE1)) fun h2 hE2=>?_;refine zy ?_;exact ZAF (ZAG rfl ⟨rfl,hE1.trans hE2⟩)
 refine ZAB rfl rfl rfl rfl (A_ff (fun q=>q he) (ZCH rfl rfl)) ?_;refine zy ?_
 by_cases hL0:L.length=0
 ·have hno:=ZMO (.inr (List.eq_nil_of_length_eq_zero hL0))
  refine ZAB rfl rfl rfl rfl (A_tt (by omega) (ZA0 rfl rfl)) ?_;refine zy ?_;refine ZAB rfl rfl rfl rfl (A_tt (by rw[hno];rfl) (ZA0 rfl rfl)) ?_;refine zy ?_;refine ZAT rfl rfl rfl rfl rfl Bod.h rfl rfl (ZC0 (hW.ext hE1)) fun h2 hE2=>?_;refine zy ?_;exact ZAF (ZAG rfl ⟨rfl,hE1.trans hE2⟩)
 refine ZAB rfl rfl rfl rfl (A_ff (by omega) (ZA0 rfl rfl)) ?_;obtain⟨h8,hck,hM,hM2⟩:=ZQ0 he;have hMu:(mrgU ltW L.flatten).Pairwise ltW:=ZGW ZAg _;have hMm:∀z,z∈mrgU ltW L.flatten ↔ z∈L.flatten:=fun z=>ZB0 ZAg;rw[hM] at hSM hTM ⊢;have hLg:∀l∈L,∀z∈l,ZAt z=0:=fun l hl=>ZDz (hck l hl);have hLl:∀l∈L,l.length<=200:=fun l hl=>ZDf (hck l hl)
 have hMg:∀z∈mrgU ltW L.flatten,ZAt z=0:=fun z hz=>by
  obtain⟨l,hl,hzl⟩:=List.mem_flatten.1 ((hMm z).1 hz);exact hLg l hl z hzl
 have hMf:∀z∈mrgU ltW L.flatten,z.Fit:=fun z hz=>by
  obtain⟨l,hl,hzl⟩:=List.mem_flatten.1 ((hMm z).1 hz);exact (hf l hl).2 z hzl
 generalize mrgU ltW L.flatten=M at *;refine ZBX fun hw1=>?_;have hL1:=ZAh.ext (R:=CatR) (fun hr hE=>CatR.ext hr hE) hL hE1;have hW1:=hW.ext hE1;have hn0:0<L.length:=by omega
 obtain⟨k,hk⟩:∃k,k=xn % L.length:=⟨_,rfl⟩;have hkn:k<L.length:=by rw[hk];exact Nat.mod_lt _ hn0
 clear hM he hck hL hL0;refine zy ?_;refine ZAB rfl rfl rfl rfl (ZBi ⟨_,Und.h⟩ Und.h rfl hwx) ?_;refine zy ?_;refine ZAB rfl rfl rfl rfl (ZHd (a:=xn) (b:=L.length) rfl rfl hn0) ?_;rw[<-hk];refine zy ?_;refine ZAO (fun (st:Nat×Value×List (Value×List WkR)) m ds h'=>ds=[]/\Ext h1 h'/\st.1<=L.length/\st.2.2.length=st.1/\(∀d∈st.2.2,∃l∈L,d.2=l.reverse)/\(∀t l,t<st.1->L[(k+t) % L.length]?=some l->l.reverse∈st.2.2.map Prod.snd)/\Own h1 h' (otI h1 st.2.1 st.2.2::st.2.2.map (bkI h1))/\AllK m [(0,.slice a L.length c),(2,.int .u8 (yn:Int)),(7,.slice aM M.length cM),(9,i64 (k:Nat)),(10,st.2.1),(11,i64 (st.1:Nat))]) (fun st=>L.length-st.1) (0,.slice none 0 0,[]) ?_ ?_
 ·exact⟨rfl,Ext.refl _,Nat.zero_le _,rfl,(fun d hd=>absurd hd List.not_mem_nil),(fun t l ht=>absurd ht (Nat.not_lt_zero _)),(Own.nil h1 h1).nilSl _ _,rfl,rfl,rfl,rfl,rfl,rfl,trivial⟩
 rintro⟨i,vo,D⟩ m ds h2 ⟨rfl,hE2,hi,hDl,hDs,hDt,hO2,hall⟩;refine Wc.le ?_ (Le.kn hall);clear hall;simp only at hi hDl hDs hDt hO2 ⊢;refine zy ?_;refine ZAP rfl rfl rfl rfl (ZAX rfl rfl) (fun hil=>?_) (fun hil=>?_);rotate_left
 ·have hiL:i=L.length:=by omega
  subst hiL
  have hDg:∀d∈D,(chkS d.2).2=0/\d.2.length*72<=140737488351232/\∀x∈d.2,x.Fit:=fun d hd=>by
   obtain⟨l,hl,e⟩:=hDs d hd;have h1:=hLl l hl;rw[e];exact⟨ZFn (by rw[List.length_reverse];exact h1) fun z hz=>hLg l hl z (List.mem_reverse.1 hz),by rw[List.length_reverse];omega,fun z hz=>(hf l hl).2 z (List.mem_reverse.1 hz)⟩
  have hDm:∀x,x∈M ↔ x∈(D.map Prod.snd).flatten:=fun x=>by
   rw[hMm]
   constructor
   ·intro hx
    obtain⟨l,hl,hxl⟩:=List.mem_flatten.1 hx;obtain⟨j,hj,rfl⟩:=List.getElem_of_mem hl;obtain⟨t,ht,htj⟩:=ZR7 hkn hj;exact List.mem_flatten.2 ⟨_,hDt t L[j] ht (by rw[htj];exact List.getElem?_eq_getElem hj),List.mem_reverse.2 hxl⟩
   ·intro hx
    obtain⟨l,hl,hxl⟩:=List.mem_flatten.1 hx;obtain⟨d,hd,rfl⟩:=List.mem_map.1 hl;obtain⟨l',hl',e⟩:=hDs d hd;rw[e] at hxl;exact List.mem_flatten.2 ⟨l',hl',List.mem_reverse.1 hxl⟩
  clear hDs hDt hLl hLg hMm hil hi hL1 hkn hk
  by_cases hc8:8<=D.length
  ·have hO8:(D.map Prod.snd).length<=8:=by rw[List.length_map];omega
   have hOc:∀l∈D.map Prod.snd,(chkS l).2=0:=fun l hl=>by
    obtain⟨d,hd,rfl⟩:=List.mem_map.1 hl;exact (hDg d hd).1
   have hOf:∀l∈D.map Prod.snd,l.length*72<=140737488351232/\∀x∈l,x.Fit:=fun l hl=>by
    obtain⟨d,hd,rfl⟩:=List.mem_map.1 hl;exact (hDg d hd).2
   have hOm:∀x,x∈M ↔ x∈(D.map Prod.snd).flatten:=hDm;obtain⟨aO,eO,hRO⟩:=ZLL (show ZAA h1 h2 vo 22 1 (D.map Prod.fst) D.length from hO2.p1) (ZLK hO2);have hEO:=hE2;have hmv:=ZDq (c:=D.length) hRO (show _<_ by omega) hOf (hW1.ext hEO);rw[ZD0 hO8 hOc hOm hMu hM2,List.length_map,<-eO] at hmv;clear hRO hOf hO8 hOc hOm;subst eO;refine zy ?_;refine ZAB rfl rfl rfl rfl (A_ff (by omega) (ZAX rfl rfl)) ?_;refine zy ?_;refine ZAJ rfl rfl rfl rfl rfl Bod.h rfl rfl hmv ?_;rintro _ h20 ⟨⟨aA,cA,rfl,hSA⟩,hE20⟩;have hE120:=hEO.trans hE20;have hSM20:=hSM.ext hE120;clear hmv;refine zy ?_;refine ZAB rfl rfl rfl rfl (ZBi ⟨_,Und.h⟩ Und.h rfl hwy) ?_
   refine zy ?_;refine ZAB rfl rfl rfl rfl (ZHd (a:=yn) (b:=M.length+1) rfl rfl (Nat.succ_pos _)) ?_;obtain⟨q,hq⟩:∃q,q=yn % (M.length+1):=⟨_,rfl⟩;have hqM:q<=M.length:=by have:=Nat.mod_lt yn (show 0<M.length+1 by omega);omega
   rw[<-hq];obtain⟨cT,hTA⟩:=ZLj (t:=22) (n:=q) (kj:=.i64) Und.h Tsz.h hTM hqM;refine zy ?_;refine ZAB rfl rfl rfl rfl (hTA rfl rfl) ?_;refine ZBN (cs:=[.slice aM M.length cM,.slice aM q cT]) rfl rfl Und.h Tsz.h Zr.h rfl rfl rfl rfl rfl fun h21 hE21 hW21 hg21 hn21=>?_;have hE121:=hE120.trans hE21;have hSM21:=hSM.ext hE121
   have hR2:ZAh 1 CatR h21 (some ⟨h20.nx,0,none⟩) [M,M.take q]:=fun i hi=>by
    have hi2:i<2:=hi
    rcases i with _|_|i
    ·exact⟨_,0,none,rfl,_,ZAQ hg21 rfl,aM,cM,rfl,hSM21⟩
    ·exact⟨_,0,none,rfl,_,ZAQ hg21 rfl,aM,cT,by show [Value.slice aM q cT]=[Value.slice aM (M.take q).length cT];rw[List.length_take,Nat.min_eq_left hqM],hSM21.takeS q⟩
    ·omega
   refine ZAJ rfl rfl rfl rfl rfl Bod.h rfl rfl (ZDq hR2 (show 2<_ by decide) (fun l hl=>by
    simp only[List.mem_cons,List.not_mem_nil,or_false] at hl
    rcases hl with rfl|rfl
    ·exact⟨by omega,hMf⟩
    ·exact⟨by rw[List.length_take];omega,fun x hx=>hMf x (List.mem_of_mem_take hx)⟩) (hW1.ext hE121)) ?_
   rw[ZD0 (L:=[M,M.take q]) (M:=M) (show 2<=8 by decide) (fun l hl=>by
    simp only[List.mem_cons,List.not_mem_nil,or_false] at hl
    rcases hl with rfl|rfl
    ·exact ZFn hM2 hMg
    ·exact ZFn (by rw[List.length_take];omega) fun x hx=>hMg x (List.mem_of_mem_take hx)) (fun x=>by
    simp only[List.flatten_cons,List.flatten_nil,List.append_nil,List.mem_append];exact⟨.inl,fun z=>z.elim id List.mem_of_mem_take⟩) hMu hM2]
   rintro _ h22 ⟨⟨aB,cB,rfl,hSB⟩,hE22⟩;have hE122:=hE121.trans hE22;refine zy ?_;refine ZAJ rfl rfl rfl rfl rfl Bod.h rfl rfl (ZB6 (hSM.ext hE122).1 hMf (show _<_ by omega) (hW1.ext hE122)) ?_;rw[ZIu hM2 hMg];rintro _ h23 ⟨rfl,hE23⟩;have hE123:=hE122.trans hE23;have hSA3:=(hSA.ext (hE21.trans (hE22.trans hE23))).1;have hSB3:=(hSB.ext hE23).1;have hSM3:=(hSM.ext hE123).1;refine zy ?_;refine ZAB rfl rfl rfl rfl (A_tt rfl (ZA0 rfl rfl)) ?_;refine zy ?_;refine ZAB rfl rfl rfl rfl (A_tt rfl (ZA0 rfl rfl)) ?_;refine zy ?_;refine ZAB rfl rfl rfl rfl (A_tt rfl (ZA0 rfl rfl)) ?_;refine zy ?_;refine ZAB rfl rfl rfl rfl (A_tt rfl (ZA0 rfl rfl)) ?_
   refine zy ?_;refine ZAR rfl rfl rfl rfl rfl Bod.h rfl rfl (ZCz (l:=M) hSA3 hSM3 (show M.length<_ by omega)) ?_;refine zy ?_;refine ZAR rfl rfl rfl rfl rfl Bod.h rfl rfl (ZCz (l:=M) hSB3 hSM3 (show M.length<_ by omega)) ?_;refine zy ?_;refine ZAT rfl rfl rfl rfl rfl Bod.h rfl rfl (ZC0 (hW1.ext hE123)) fun h24 hE24=>?_;refine zy ?_;exact ZAF (ZAG rfl ⟨rfl,(hE1.trans hE123).trans hE24⟩)
  have hD0:0<D.length:=by omega
  obtain⟨d0,hd0⟩:∃d0,d0=D[0]:=⟨_,rfl⟩;have hdm:d0∈D:=by rw[hd0];exact List.getElem_mem _
  have hFd:ZAA h1 h2 d0.1 44 6 (d0.2.flatMap rowW) d0.2.length:=hO2.has (bkI h1 d0) (List.mem_cons_of_mem _ (List.mem_map.2 ⟨d0,hdm,rfl⟩));obtain⟨ad,ed,-,-⟩:=ZAA.rowsAt (enc:=rowW) (k:=6) (fun _=>rfl) hFd rfl;obtain⟨bo,spo,opo,eo,hgo,-,hbo,hspo⟩:∃b sp op,vo=.slice (some ⟨b,0,sp⟩) D.length D.length/\h2.get b=some (.cells (D.map Prod.fst) 22 op)/\(D.map Prod.fst).length=D.length*1/\h1.nx<=b/\(sp=none\/sp=some 1):=(show ZAA h1 h2 vo 22 1 (D.map Prod.fst) D.length from hO2.p1).resolve_left fun q=>by omega
  have hcd:ZAb h2 bo (0+0*1)=some d0.1:=ZAi hgo (by rw[ZAk,List.getElem?_map,List.getElem?_eq_getElem (show 0+0*1<D.length by omega),hd0];rfl);obtain⟨hdc,hdb,hdf⟩:=hDg d0 hdm;have hdl:=ZDf hdc;have hdg:=ZDz hdc
  by_cases hz:d0.2.length=0
  ·have hO8:(D.map Prod.snd).length<=8:=by rw[List.length_map];omega
   have hOc:∀l∈D.map Prod.snd,(chkS l).2=0:=fun l hl=>by
    obtain⟨d,hd,rfl⟩:=List.mem_map.1 hl;exact (hDg d hd).1
   have hOf:∀l∈D.map Prod.snd,l.length*72<=140737488351232/\∀x∈l,x.Fit:=fun l hl=>by
    obtain⟨d,hd,rfl⟩:=List.mem_map.1 hl;exact (hDg d hd).2
   have hOm:∀x,x∈M ↔ x∈(D.map Prod.snd).flatten:=hDm;obtain⟨aO,eO,hRO⟩:=ZLL (show ZAA h1 h2 vo 22 1 (D.map Prod.fst) D.length from hO2.p1) (ZLK hO2);have hEO:=hE2;have hmv:=ZDq (c:=D.length) hRO (show _<_ by omega) hOf (hW1.ext hEO);rw[ZD0 hO8 hOc hOm hMu hM2,List.length_map,<-eO] at hmv;clear hRO hOf hO8 hOc hOm eO;subst eo;rw[ed] at hcd;refine zy ?_;refine ZAB rfl rfl rfl rfl (A_tt (by omega) (ZAX rfl rfl)) ?_;refine zy ?_;refine ZAB rfl rfl rfl rfl (A_ix (k:=0) Und.h Tsz.h rfl rfl hD0) ?_;refine zy ?_;refine ZAB rfl rfl rfl rfl (A_ff (by omega) (ZCA rfl rfl)) ?_;refine zy ?_;refine ZAJ rfl rfl rfl rfl rfl Bod.h rfl rfl hmv ?_
   rintro _ h20 ⟨⟨aA,cA,rfl,hSA⟩,hE20⟩;have hE120:=hEO.trans hE20;have hSM20:=hSM.ext hE120;clear hmv;refine zy ?_;refine ZAB rfl rfl rfl rfl (ZBi ⟨_,Und.h⟩ Und.h rfl hwy) ?_;refine zy ?_;refine ZAB rfl rfl rfl rfl (ZHd (a:=yn) (b:=M.length+1) rfl rfl (Nat.succ_pos _)) ?_;obtain⟨q,hq⟩:∃q,q=yn % (M.length+1):=⟨_,rfl⟩;have hqM:q<=M.length:=by have:=Nat.mod_lt yn (show 0<M.length+1 by omega);omega
   rw[<-hq];obtain⟨cT,hTA⟩:=ZLj (t:=22) (n:=q) (kj:=.i64) Und.h Tsz.h hTM hqM;refine zy ?_;refine ZAB rfl rfl rfl rfl (hTA rfl rfl) ?_;refine ZBN (cs:=[.slice aM M.length cM,.slice aM q cT]) rfl rfl Und.h Tsz.h Zr.h rfl rfl rfl rfl rfl fun h21 hE21 hW21 hg21 hn21=>?_;have hE121:=hE120.trans hE21;have hSM21:=hSM.ext hE121
   have hR2:ZAh 1 CatR h21 (some ⟨h20.nx,0,none⟩) [M,M.take q]:=fun i hi=>by
    have hi2:i<2:=hi
    rcases i with _|_|i
    ·exact⟨_,0,none,rfl,_,ZAQ hg21 rfl,aM,cM,rfl,hSM21⟩
    ·exact⟨_,0,none,rfl,_,ZAQ hg21 rfl,aM,cT,by show [Value.slice aM q cT]=[Value.slice aM (M.take q).length cT];rw[List.length_take,Nat.min_eq_left hqM],hSM21.takeS q⟩
    ·omega
   refine ZAJ rfl rfl rfl rfl rfl Bod.h rfl rfl (ZDq hR2 (show 2<_ by decide) (fun l hl=>by
    simp only[List.mem_cons,List.not_mem_nil,or_false] at hl
    rcases hl with rfl|rfl
    ·exact⟨by omega,hMf⟩
    ·exact⟨by rw[List.length_take];omega,fun x hx=>hMf x (List.mem_of_mem_take hx)⟩) (hW1.ext hE121)) ?_
   rw[ZD0 (L:=[M,M.take q]) (M:=M) (show 2<=8 by decide) (fun l hl=>by
    simp only[List.mem_cons,List.not_mem_nil,or_false] at hl
    rcases hl with rfl|rfl
    ·exact ZFn hM2 hMg
    ·exact ZFn (by rw[List.length_take];omega) fun x hx=>hMg x (List.mem_of_mem_take hx)) (fun x=>by
    simp only[List.flatten_cons,List.flatten_nil,List.append_nil,List.mem_append];exact⟨.inl,fun z=>z.elim id List.mem_of_mem_take⟩) hMu hM2]
   rintro _ h22 ⟨⟨aB,cB,rfl,hSB⟩,hE22⟩;have hE122:=hE121.trans hE22;refine zy ?_;refine ZAJ rfl rfl rfl rfl rfl Bod.h rfl rfl (ZB6 (hSM.ext hE122).1 hMf (show _<_ by omega) (hW1.ext hE122)) ?_;rw[ZIu hM2 hMg];rintro _ h23 ⟨rfl,hE23⟩;have hE123:=hE122.trans hE23;have hSA3:=(hSA.ext (hE21.trans (hE22.trans hE23))).1;have hSB3:=(hSB.ext hE23).1;have hSM3:=(hSM.ext hE123).1;refine zy ?_;refine ZAB rfl rfl rfl rfl (A_tt rfl (ZA0 rfl rfl)) ?_;refine zy ?_;refine ZAB rfl rfl rfl rfl (A_tt rfl (ZA0 rfl rfl)) ?_;refine zy ?_;refine ZAB rfl rfl rfl rfl (A_tt rfl (ZA0 rfl rfl)) ?_;refine zy ?_;refine ZAB rfl rfl rfl rfl (A_tt rfl (ZA0 rfl rfl)) ?_
   refine zy ?_;refine ZAR rfl rfl rfl rfl rfl Bod.h rfl rfl (ZCz (l:=M) hSA3 hSM3 (show M.length<_ by omega)) ?_;refine zy ?_;refine ZAR rfl rfl rfl rfl rfl Bod.h rfl rfl (ZCz (l:=M) hSB3 hSM3 (show M.length<_ by omega)) ?_;refine zy ?_;refine ZAT rfl rfl rfl rfl rfl Bod.h rfl rfl (ZC0 (hW1.ext hE123)) fun h24 hE24=>?_;refine zy ?_;exact ZAF (ZAG rfl ⟨rfl,(hE1.trans hE123).trans hE24⟩)
  obtain⟨n,hn⟩:∃n,n=yn % d0.2.length:=⟨_,rfl⟩;have hnd:n<d0.2.length:=by rw[hn];exact Nat.mod_lt _ (by omega)
  obtain⟨aR,cR,hSR,hAR⟩:=ZR6 hFd hnd;rw[ed] at hcd;have hAR':=fun {h:Heap} {m:Mem} {d':Option Tmp} {ty:TypeId} {pos:String} {af:Array Edge} {gu:Option (Nat×Bool)} {x i:Operand} (hx:opk h m x=some (.slice ad d0.2.length d0.2.length))=>@hAR h m d' ty pos af gu x i (by rw[ed];exact hx);subst eo;refine zy ?_;refine ZAB rfl rfl rfl rfl (A_tt (by omega) (ZAX rfl rfl)) ?_;refine zy ?_;refine ZAB rfl rfl rfl rfl (A_ix (k:=0) Und.h Tsz.h rfl rfl hD0) ?_;refine zy ?_;refine ZAB rfl rfl rfl rfl (A_tt (by omega) (ZCA rfl rfl)) ?_;refine zy ?_;refine ZAB rfl rfl rfl rfl (ZBi ⟨_,Und.h⟩ Und.h rfl hwy) ?_;refine zy ?_
  refine ZAB rfl rfl rfl rfl (A_ix (k:=0) Und.h Tsz.h rfl rfl hD0) ?_;refine zy ?_;refine ZAB rfl rfl rfl rfl (ZHd (a:=yn) (b:=d0.2.length) rfl rfl (by omega)) ?_;rw[<-hn];refine zy ?_;refine ZAB rfl rfl rfl rfl (A_ix (k:=0) Und.h Tsz.h rfl rfl hD0) ?_;refine zy ?_;refine ZAB rfl rfl rfl rfl (hAR' rfl rfl) ?_;refine ZBN (cs:=[.slice aR (d0.2.length-n) cR]) rfl rfl Und.h Tsz.h Zr.h rfl rfl rfl rfl rfl fun h5 hE5 hW5 hg5 hn5=>?_;refine zy ?_;refine ZAv (k:=1) (l:=[.slice aR (d0.2.length-n) cR]) hw1 (hE2.trans hE5) rfl rfl rfl rfl rfl Und.h inferInstance rfl rfl (show Own h1 h5 (slI h1 _ 22 1 (D.map Prod.fst) D.length::D.map (bkI h1)) from hO2.ext hE5) (ZAw Und.h (by intro k;simp) (ZAQ hg5 rfl)) rfl rfl (by omega) (by omega) fun v6 h6 hW6 hO6 hE6=>?_
  obtain⟨D2,hD2⟩:∃D2,D2=D++[(Value.slice aR (d0.2.length-n) cR,d0.2.drop n)]:=⟨_,rfl⟩;have hD2l:D2.length=D.length+1:=by rw[hD2,List.length_append];rfl
  have hF6:ZAA h1 h6 v6 22 1 (D2.map Prod.fst) D2.length:=by
   rw[hD2l,hD2,List.map_append];exact hO6.p1
  have hSR6:=hSR h6 (hO6.has (bkI h1 d0) (List.mem_cons_of_mem _ (List.mem_map.2 ⟨d0,hdm,rfl⟩)))
  have hcat6:∀d∈D2,CatR h6 [d.1] d.2:=fun d hd=>by
   rw[hD2] at hd
   rcases List.mem_append.1 hd with hd|hd
   ·exact ZLK hO6 d hd
   ·rw[List.mem_singleton.1 hd]
    exact⟨aR,cR,by rw[List.length_drop],hSR6⟩
  have hDg2:∀d∈D2,(chkS d.2).2=0/\d.2.length*72<=140737488351232/\∀x∈d.2,x.Fit:=fun d hd=>by
   rw[hD2] at hd
   rcases List.mem_append.1 hd with hd|hd
   ·exact hDg d hd
   ·rw[List.mem_singleton.1 hd]
    exact⟨ZFn (by rw[List.length_drop];omega) fun z hz=>hdg z (List.mem_of_mem_drop hz),by rw[List.length_drop];omega,fun z hz=>hdf z (List.mem_of_mem_drop hz)⟩
  have hDm2:∀x,x∈M ↔ x∈(D2.map Prod.snd).flatten:=fun x=>by
   rw[hDm,hD2,List.map_append,List.flatten_append,List.mem_append];refine⟨.inl,fun q=>q.elim id fun q=>?_⟩;rw[List.map_cons,List.map_nil,List.flatten_cons,List.flatten_nil,List.append_nil] at q;exact List.mem_flatten.2 ⟨d0.2,List.mem_map.2 ⟨d0,hdm,rfl⟩,List.mem_of_mem_drop q⟩
  clear hD2 hO2 hO6 hSR hAR hSR6 hg5 hFd hcd hDm hDg;have hO8:(D2.map Prod.snd).length<=8:=by rw[List.length_map];omega
  have hOc:∀l∈D2.map Prod.snd,(chkS l).2=0:=fun l hl=>by
   obtain⟨d,hd,rfl⟩:=List.mem_map.1 hl;exact (hDg2 d hd).1
  have hOf:∀l∈D2.map Prod.snd,l.length*72<=140737488351232/\∀x∈l,x.Fit:=fun l hl=>by
   obtain⟨d,hd,rfl⟩:=List.mem_map.1 hl;exact (hDg2 d hd).2
  obtain⟨aO,eO,hRO⟩:=ZLL hF6 hcat6;have hEO:=hE6;have hmv:=ZDq (c:=D2.length) hRO (show _<_ by omega) hOf (hW1.ext hEO);rw[ZD0 hO8 hOc hDm2 hMu hM2,List.length_map,<-eO] at hmv;clear hRO hOf hO8 hOc hDm2 hDg2 hF6 hcat6;refine zy ?_;refine ZAJ rfl rfl rfl rfl rfl Bod.h rfl rfl hmv ?_;rintro _ h20 ⟨⟨aA,cA,rfl,hSA⟩,hE20⟩;have hE120:=hEO.trans hE20;have hSM20:=hSM.ext hE120;clear hmv;refine zy ?_;refine ZAB rfl rfl rfl rfl (ZBi ⟨_,Und.h⟩ Und.h rfl hwy) ?_;refine zy ?_;refine ZAB rfl rfl rfl rfl (ZHd (a:=yn) (b:=M.length+1) rfl rfl (Nat.succ_pos _)) ?_;obtain⟨q,hq⟩:∃q,q=yn % (M.length+1):=⟨_,rfl⟩;have hqM:q<=M.length:=by have:=Nat.mod_lt yn (show 0<M.length+1 by omega);omega
  rw[<-hq];obtain⟨cT,hTA⟩:=ZLj (t:=22) (n:=q) (kj:=.i64) Und.h Tsz.h hTM hqM;refine zy ?_;refine ZAB rfl rfl rfl rfl (hTA rfl rfl) ?_;refine ZBN (cs:=[.slice aM M.length cM,.slice aM q cT]) rfl rfl Und.h Tsz.h Zr.h rfl rfl rfl rfl rfl fun h21 hE21 hW21 hg21 hn21=>?_;have hE121:=hE120.trans hE21;have hSM21:=hSM.ext hE121
  have hR2:ZAh 1 CatR h21 (some ⟨h20.nx,0,none⟩) [M,M.take q]:=fun i hi=>by
   have hi2:i<2:=hi
   rcases i with _|_|i
   ·exact⟨_,0,none,rfl,_,ZAQ hg21 rfl,aM,cM,rfl,hSM21⟩
   ·exact⟨_,0,none,rfl,_,ZAQ hg21 rfl,aM,cT,by show [Value.slice aM q cT]=[Value.slice aM (M.take q).length cT];rw[List.length_take,Nat.min_eq_left hqM],hSM21.takeS q⟩
   ·omega
  refine ZAJ rfl rfl rfl rfl rfl Bod.h rfl rfl (ZDq hR2 (show 2<_ by decide) (fun l hl=>by
   simp only[List.mem_cons,List.not_mem_nil,or_false] at hl
   rcases hl with rfl|rfl
   ·exact⟨by omega,hMf⟩
   ·exact⟨by rw[List.length_take];omega,fun x hx=>hMf x (List.mem_of_mem_take hx)⟩) (hW1.ext hE121)) ?_
  rw[ZD0 (L:=[M,M.take q]) (M:=M) (show 2<=8 by decide) (fun l hl=>by
   simp only[List.mem_cons,List.not_mem_nil,or_false] at hl
   rcases hl with rfl|rfl
   ·exact ZFn hM2 hMg
   ·exact ZFn (by rw[List.length_take];omega) fun x hx=>hMg x (List.mem_of_mem_take hx)) (fun x=>by
   simp only[List.flatten_cons,List.flatten_nil,List.append_nil,List.mem_append];exact⟨.inl,fun z=>z.elim id List.mem_of_mem_take⟩) hMu hM2]
  rintro _ h22 ⟨⟨aB,cB,rfl,hSB⟩,hE22⟩;have hE122:=hE121.trans hE22;refine zy ?_;refine ZAJ rfl rfl rfl rfl rfl Bod.h rfl rfl (ZB6 (hSM.ext hE122).1 hMf (show _<_ by omega) (hW1.ext hE122)) ?_;rw[ZIu hM2 hMg];rintro _ h23 ⟨rfl,hE23⟩;have hE123:=hE122.trans hE23;have hSA3:=(hSA.ext (hE21.trans (hE22.trans hE23))).1;have hSB3:=(hSB.ext hE23).1;have hSM3:=(hSM.ext hE123).1;refine zy ?_;refine ZAB rfl rfl rfl rfl (A_tt rfl (ZA0 rfl rfl)) ?_;refine zy ?_;refine ZAB rfl rfl rfl rfl (A_tt rfl (ZA0 rfl rfl)) ?_;refine zy ?_;refine ZAB rfl rfl rfl rfl (A_tt rfl (ZA0 rfl rfl)) ?_;refine zy ?_;refine ZAB rfl rfl rfl rfl (A_tt rfl (ZA0 rfl rfl)) ?_
  refine zy ?_;refine ZAR rfl rfl rfl rfl rfl Bod.h rfl rfl (ZCz (l:=M) hSA3 hSM3 (show M.length<_ by omega)) ?_;refine zy ?_;refine ZAR rfl rfl rfl rfl rfl Bod.h rfl rfl (ZCz (l:=M) hSB3 hSM3 (show M.length<_ by omega)) ?_;refine zy ?_;refine ZAT rfl rfl rfl rfl rfl Bod.h rfl rfl (ZC0 (hW1.ext hE123)) fun h24 hE24=>?_;refine zy ?_;exact ZAF (ZAG rfl ⟨rfl,(hE1.trans hE123).trans hE24⟩)
 have hi':i<L.length:=by omega
 obtain⟨j,hj⟩:∃j,j=(k+i) % L.length:=⟨_,rfl⟩;have hjn:j<L.length:=by rw[hj];exact Nat.mod_lt _ hn0
 obtain⟨b,o,oa,rfl,row,hr0,al,cl,er,hSl0⟩:=hL1 j hjn;subst er;have hljt:L[(k+i) % L.length]?=some L[j]:=by rw[<-hj];exact List.getElem?_eq_getElem hjn
 have hlm:=List.getElem_mem hjn;have hll:=hLl _ hlm;generalize L[j]=l at *;have hr:=hE2.row hr0;have hc0:ZAb h2 b (o+j*1+0)=some (.slice al l.length cl):=ZAW (k:=0) hr rfl;refine zy ?_;refine ZAB rfl rfl rfl rfl (ZHd (a:=k+i) (b:=L.length) rfl rfl hn0) ?_;rw[<-hj];refine zy ?_;refine ZAB rfl rfl rfl rfl (A_ix (k:=j) Und.h Tsz.h rfl rfl hjn) ?_;refine zy ?_;refine ZAO (fun (st:Nat×Value) m ds h'=>ds=[]/\Ext h1 h'/\st.1<=l.length/\Own h1 h' (slI h1 st.2 44 6 ((l.drop st.1).reverse.flatMap rowW) (l.length-st.1)::otI h1 vo D::D.map (bkI h1))/\AllK m [(0,.slice (some ⟨b,o,oa⟩) L.length c),(2,.int .u8 (yn:Int)),(7,.slice aM M.length cM),(9,i64 (k:Nat)),(10,vo),(11,i64 (i:Nat)),(12,st.2),(13,.slice al l.length cl),(14,i64 ((st.1:Nat)-1))]) (fun st=>st.1) (l.length,.slice none 0 0) ?_ ?_
 ·refine⟨rfl,hE2,Nat.le_refl _,?_,rfl,rfl,rfl,rfl,rfl,rfl,rfl,rfl,rfl,trivial⟩
  simp only[List.drop_length,List.reverse_nil,List.flatMap_nil,Nat.sub_self];exact hO2.nilSl _ _
 clear hO2 hr hc0 hE2;rintro⟨r,vb⟩ m ds h3 ⟨rfl,hE3,hrl,hO3,hall⟩;simp only at hrl hO3 ⊢
 rcases r with _|q
 ·rw[show (((((0:Nat),vb):Nat×Value).1:Nat):Int)-1 = -1 from rfl] at hall
  refine Wc.le ?_ (Le.kn hall);clear hall;rw[List.drop_zero,Nat.sub_zero] at hO3;obtain⟨ab,eb,-,-⟩:=ZAA.rowsAt (enc:=rowW) (k:=6) (l:=l.reverse) (fun _=>rfl) (show ZAA h1 h3 vb 44 6 (l.reverse.flatMap rowW) l.length from hO3.p1) List.length_reverse.symm;rw[List.length_reverse] at eb;subst eb;refine zy ?_;refine ZAB rfl rfl rfl rfl (A_ff (by decide) (ZJv rfl rfl)) ?_;refine zy ?_;refine ZBN (cs:=[.slice ab l.length l.length]) rfl rfl Und.h Tsz.h Zr.h rfl rfl rfl rfl rfl fun h5 hE5 hW5 hg5 hn5=>?_;refine zy ?_;refine ZAv (k:=1) (l:=[.slice ab l.length l.length]) hw1 (hE3.trans hE5) rfl rfl rfl rfl rfl Und.h inferInstance rfl rfl ((hO3.ext hE5).up2) (ZAw Und.h (by intro k;simp) (ZAQ hg5 rfl)) rfl rfl (by omega) (by omega) fun v6 h6 hW6 hO6 hE6=>?_
  refine zy ?_;refine⟨(i+1,v6,D++[(.slice ab l.length l.length,l.reverse)]),(by show L.length-(i+1)<L.length-i;omega),rfl,hE6,hi',(by rw[List.length_append,hDl];rfl),fun d hd=>?_,fun t l' ht hl'=>?_,?_,rfl,rfl,rfl,rfl,rfl,rfl,trivial⟩
  ·rcases List.mem_append.1 hd with hd|hd
   ·exact hDs d hd
   ·rw[List.mem_singleton.1 hd];exact⟨l,hlm,rfl⟩
  ·show l'.reverse∈(D++[(Value.slice ab l.length l.length,l.reverse)]).map Prod.snd
   rw[List.map_append,List.mem_append]
   rcases Nat.lt_succ_iff_lt_or_eq.1 ht with ht|rfl
   ·exact .inl (hDt t l' ht hl')
   ·rw[hljt] at hl'
    rw[<-Option.some.inj hl'];exact .inr (List.mem_singleton.2 rfl)
  ·show Own h1 h6 (otI h1 v6 (D++[(Value.slice ab l.length l.length,l.reverse)])::(D++[(Value.slice ab l.length l.length,l.reverse)]).map (bkI h1))
   unfold otI;rw[List.map_append,List.map_append,List.length_append];refine hO6.perm (List.Perm.cons _ ?_);rw[show [((Value.slice ab l.length l.length),l.reverse)].map (bkI h1)=[slI h1 (.slice ab l.length l.length) 44 6 (l.reverse.flatMap rowW) l.length] from by unfold bkI;simp];exact (List.perm_append_singleton _ _).symm
 rw[show ((((q+1,vb):Nat×Value).1:Nat):Int)-1=((q:Nat):Int) from by show ((q+1:Nat):Int)-1=(q:Int);omega] at hall;refine Wc.le ?_ (Le.kn hall);clear hall;have hq':q<l.length:=by omega
 obtain⟨bl,ol,oal,rfl,row,hrx0,hx0⟩:=hSl0.1 q hq';have hrx:=(hE3).row hrx0;have ex:row=rowW l[q]:=hx0;have hdr:(l.drop q).reverse.flatMap rowW=(l.drop (q+1)).reverse.flatMap rowW++rowW l[q]:=by
  rw[List.drop_eq_getElem_cons hq',List.reverse_cons,List.flatMap_append,List.flatMap_singleton]
 subst ex;clear hx0 hrx0;generalize l[q]=z at *;refine zy ?_;refine ZAB rfl rfl rfl rfl (A_tt (by omega) (ZJv rfl rfl)) ?_;refine zy ?_;refine ZAB rfl rfl rfl rfl (A_ix Und.h Tsz.h rfl rfl) ?_;refine zy ?_;refine ZBN (cs:=rowW z) rfl rfl Und.h Tsz.h Zr.h rfl rfl rfl rfl rfl fun h5 hE5 hW5 hg5 hn5=>?_;refine zy ?_;refine ZAv (k:=1) (l:=rowW z) hw1 (hE3.trans hE5) rfl rfl rfl rfl rfl Und.h inferInstance rfl rfl (hO3.ext hE5) (ZAw Und.h (by intro k;simp) (ZAQ hg5 rfl)) rfl rfl (by omega) (by omega) fun v6 h6 hW6 hO6 hE6=>?_;refine zy ?_;refine⟨(q,v6),Nat.lt_succ_self q,rfl,hE6,by omega,?_,rfl,rfl,rfl,rfl,rfl,rfl,rfl,rfl,rfl,trivial⟩
 simp only;rw[hdr,show l.length-q=l.length-(q+1)+1 by omega];exact hO6
end Go.Dw
