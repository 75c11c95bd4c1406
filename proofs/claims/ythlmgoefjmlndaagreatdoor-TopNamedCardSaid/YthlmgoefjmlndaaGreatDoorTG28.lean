/- Q1: what a catalogue calls a work: the contract of telecinetop.called, and its laws. -/
import Derived.Test.YthlmgoefjmlndaaGreatDoorTG2
import Derived.Test.YthlmgoefjmlndaaGreatDoorTG24
import Derived.Test.YthlmgoefjmlndaaGreatDoorTG27
import Derived.Test.YthlmgoefjmlndaaGreatDoorTG26
import Derived.Test.YthlmgoefjmlndaaGreatDoorTG18
set_option linter.unusedVariables false
set_option linter.unusedSimpArgs false
namespace Go.Dw
open Go Go.Dx Go.Proofs
set_option maxRecDepth 100000
def calS:List WkO->Str->Str
 | [],x=>x
 | w::W,x=>if x∈w.1 then w.1.headD [] else calS W x
theorem ZEX (x:Str):∀W:List WkO,(calS W x=x/\∀w∈W,x ∉ w.1)\/∃w∈W,x∈w.1/\calS W x=w.1.headD []
 | []=>.inl ⟨rfl,fun _ h=>nomatch h⟩
 | w::W=>by
  rw[calS]
  by_cases h:x∈w.1
  ·rw[if_pos h]
   exact .inr ⟨w,List.mem_cons_self,h,rfl⟩
  ·rw[if_neg h]
   rcases ZEX x W with ⟨e,hn⟩|⟨u,hu,h1,h2⟩
   ·left
    refine⟨e,fun u hu=>?_⟩
    rcases List.mem_cons.1 hu with rfl|hu
    ·exact h
    ·exact hn u hu
   ·exact .inr ⟨u,List.mem_cons_of_mem _ hu,h1,h2⟩
theorem ZNh {l:List Str}(h:l≠[]):l.headD []∈l:=by
 cases l with
 | nil=>exact absurd rfl h
 | cons a l=>exact List.mem_cons_self
theorem ZV1:∀{l:List Str}(h:0<l.length),l[0]=l.headD []
 | _::_,_=>rfl
theorem ZSE {s:List WkR}{a b:Str}(h:calS (ZBM s) a=calS (ZBM s) b)(hne:a≠b):∃(i:Nat)(w:WkO),(ZBM s)[i]?=some w/\a∈w.1/\b∈w.1:=by
 have hh:∀w∈ZBM s,w.1.headD []∈w.1:=fun w hw=>by
  obtain⟨i,hi⟩:=List.mem_iff_getElem?.1 hw;exact ZNh (ZH1 hi).2
 rcases ZEX a (ZBM s) with ⟨ea,na⟩|⟨w,hw,aw,ea⟩
 ·rcases ZEX b (ZBM s) with ⟨eb,nb⟩|⟨u,hu,bu,eb⟩
  ·rw[ea,eb] at h
   exact absurd h hne
  ·rw[ea,eb] at h
   have:=hh u hu;rw[<-h] at this;exact absurd this (na u hu)
 ·rcases ZEX b (ZBM s) with ⟨eb,nb⟩|⟨u,hu,bu,eb⟩
  ·rw[ea,eb] at h
   have:=hh w hw;rw[h] at this;exact absurd this (nb w hw)
  ·obtain⟨i,hi⟩:=List.mem_iff_getElem?.1 hw
   obtain⟨j,hj⟩:=List.mem_iff_getElem?.1 hu;have h1:=hh w hw;have h2:=hh u hu;rw[ea,eb] at h;rw[h] at h1;obtain rfl:=ZMQ hi hj (.inl ⟨h1,h2⟩);rw[hi] at hj;cases hj;exact⟨i,w,hi,aw,bu⟩
theorem ZLv {s:List WkR}(hg:∀x∈s,ZA8 x=0){k:Str}(h:ZEB s k=true):ZBI k=true:=by
 obtain⟨x,hx,hk⟩:=List.mem_flatMap.1 ((ZTa hg k).2 h);have hr:=hg x hx;unfold ZA8 at hr
 split at hr
 ·cases hr
 split at hr
 ·cases hr
 split at hr
 ·cases hr
 split at hr
 ·cases hr
 rename_i h4;have h5:(ZBA x.a && ZE4 x)=true:=by
  cases hq:ZBA x.a && ZE4 x
  ·exact absurd hq h4
  ·rfl
 rw[Bool.and_eq_true] at h5;rw[<-ZBG]
 rcases List.mem_append.1 hk with hk|hk
 ·unfold namA at hk
  split at hk
  ·rw[List.mem_singleton.1 hk];exact h5.1
  ·cases hk
 ·unfold namB at hk
  split at hk
  ·rename_i h6
   have h7:=h5.2;unfold ZE4 at h7;rw[if_neg (by omega),if_neg (by omega)] at h7;rw[List.mem_singleton.1 hk];exact h7
  ·cases hk
theorem ZPN {s:List WkR}(hg:∀x∈s,ZA8 x=0){x:Str}(hx:ZBI x=true):ZBI (calS (ZBM s) x)=true:=by
 rcases ZEX x (ZBM s) with ⟨e,-⟩|⟨w,hw,-,e⟩
 ·rw[e];exact hx
 ·rw[e]
  obtain⟨i,hi⟩:=List.mem_iff_getElem?.1 hw;have hm:=ZNh (ZH1 hi).2;obtain⟨q,-,rfl⟩:=ZDx hi;obtain⟨h1,h2,-⟩:=ZEU.1 hm;exact ZLv hg (ZNC.2 ⟨h1,h2⟩)
theorem ZQ6 {l:List WkR}{a b:Str}(hc:(chkS l).2=0)(hg:∀x∈ZAd (mrgU ltW l),ZA8 x=0)(h:calS (ZBM (ZAd (mrgU ltW l))) a=calS (ZBM (ZAd (mrgU ltW l))) b)(hne:a≠b):(ZHA l a b).2=0/\1<(ZHA l a b).1.length:=by
 obtain⟨i,w,hi,ha,hb⟩:=ZSE h hne;have hnd:=ZPT hg;have hcn:=(ZOX hi hi ha hb).2 rfl;obtain⟨q,-,rfl⟩:=ZDx hi;obtain⟨a1,a2,-⟩:=ZEU.1 ha;obtain⟨b1,b2,-⟩:=ZEU.1 hb;rw[ZOO hc (ZNC.2 ⟨a1,a2⟩) (ZNC.2 ⟨b1,b2⟩)];have hp:=(ZQB hnd a1).2 hcn;obtain⟨h0,⟨r,hr⟩,-⟩:=ZKJ hnd a1 hp;refine⟨rfl,?_⟩;simp only;rw[hr] at h0 ⊢
 cases r with
 | nil =>
  cases h0;exact absurd rfl hne
 | cons x r=>simp only[List.cons_append,List.length_cons,List.length_append,List.length_nil];omega
set_option maxHeartbeats 2000000 in
theorem ZHb {W:List WkO}{a:Option Addr}{c:Nat}{x:Str}{h:Heap}(hW:ZAM 3 ZFe h a W)(hl:Len W)(hn:∀w∈W,Len w.1):Sv Tryz.prog 53 [.slice a W.length c,str x] h (RetP fun v h'=>v=str (calS W x)/\h'=h):=by
 refine ZAF Tryz.func53 rfl (by rw[Tryz.ntmps53];rfl) ?_;show Wc Tryz.prog ⟨53,41,none⟩ _ _ _ _ _;refine zy ?_;refine ZAO (fun (i:Nat) m ds h'=>ds=[]/\h'=h/\i<=W.length/\calS W x=calS (W.drop i) x/\AllK m [(0,.slice a W.length c),(1,str x),(5,i64 (i:Nat))]) (fun i=>W.length-i) 0 ⟨rfl,rfl,Nat.zero_le _,rfl,rfl,rfl,rfl,trivial⟩ ?_;rintro i m ds h' ⟨rfl,rfl,hi,hcl,hall⟩;refine Wc.le ?_ (Le.kn hall);clear hall;refine zy ?_;refine zC (ZAf rfl rfl) (fun hlt=>?_) (fun hlt=>?_);rotate_left
 ·have hi2:i=W.length:=by omega
  subst hi2;rw[List.drop_length] at hcl;refine zy ?_;exact ZAB (ZAC rfl ⟨by rw[hcl];rfl,rfl⟩)
 have hi':i<W.length:=by omega
 have hwl:=hn _ (List.getElem_mem hi');rw[List.drop_eq_getElem_cons hi',calS] at hcl;obtain⟨b,o,oa,rfl,row,hrow,an,cn,ai,ci,hr,hN,-⟩:=hW i hi';generalize W[i]=w at *;obtain rfl:=hr;have z0:ZAZ h' b (o+i*3+0)=some (.slice an w.1.length cn):=ZAQ hrow rfl;refine zy ?_;refine Wc.mono (Q:=fun z m' ds' h''=>(z=.exit 2/\ds'=[]/\h''=h'/\x ∉ w.1/\AllK m' [(0,.slice (some ⟨b,o,oa⟩) W.length c),(1,str x),(5,i64 (i:Nat))])\/(z=.ret/\ds'=[]/\h''=h'/\x∈w.1/\∃m0,m'=upd m0 4 (str (w.1.headD [])))) (ZAO (fun (k:Nat) m ds h''=>ds=[]/\h''=h'/\k<=w.1.length/\(∀j (hj:j<w.1.length),j<k->w.1[j]≠x)/\AllK m [(0,.slice (some ⟨b,o,oa⟩) W.length c),(1,str x),(5,i64 (i:Nat)),(6,i64 (k:Nat))]) (fun k=>w.1.length-k) 0 ?_ ?_) ?_
 ·exact⟨rfl,rfl,Nat.zero_le _,(fun _ _ q=>absurd q (Nat.not_lt_zero _)),rfl,rfl,rfl,rfl,trivial⟩
 ·rintro k m ds h'' ⟨rfl,rfl,hk,hno,hall⟩
  refine Wc.le ?_ (Le.kn hall);clear hall;refine zy ?_;refine zD (A_ix Und.h Tsz.h rfl rfl) ?_;refine zC (ZAf rfl rfl) (fun hlk=>?_) (fun hlk=>?_);rotate_left
  ·have hk2:k=w.1.length:=by omega
   refine zy ?_;refine .inl ⟨rfl,rfl,rfl,fun hm=>?_,rfl,rfl,rfl,trivial⟩;obtain⟨j,hj,e⟩:=List.getElem_of_mem hm;exact hno j hj (by omega) e
  have hk':k<w.1.length:=by omega
  obtain⟨bn,on,oan,rfl,hcn⟩:=hN k hk';have hc0:ZAZ h'' bn (on+0*1)=some (str (w.1.headD [])):=by
   obtain⟨bn',on',oan',e,h0⟩:=hN 0 (by omega);cases e;rw[h0,ZV1]
  refine zy ?_;refine zD (A_ix Und.h Tsz.h rfl rfl) ?_;refine zD (A_ix Und.h Tsz.h rfl rfl) ?_
  by_cases he:w.1[k]=x
  ·refine zD (A_tt he (ZAU rfl rfl)) ?_
   refine zD (A_ix Und.h Tsz.h rfl rfl) ?_;refine zD (ZAL (k:=0) Und.h Tsz.h rfl rfl rfl (by omega)) ?_;exact ZAB (.inr ⟨rfl,rfl,rfl,he ▸ List.getElem_mem hk',_,rfl⟩)
  ·refine zD (A_ff he (ZAU rfl rfl)) ?_
   refine⟨k+1,(by show w.1.length-(k+1)<w.1.length-k;omega),rfl,rfl,hk',fun j hj hjk=>?_,rfl,rfl,rfl,rfl,trivial⟩
   rcases Nat.lt_or_ge j k with g|g
   ·exact hno j hj g
   ·have:j=k:=by omega
    subst this;exact he
 ·rintro z m' ds' h'' (⟨rfl,rfl,rfl,hx,hall⟩|⟨rfl,rfl,rfl,hx,m0,rfl⟩)
  ·rw[if_neg hx] at hcl
   show Wc _ _ _ _ _ _ _
   refine Wc.le ?_ (Le.kn hall);clear hall;refine zy ?_;exact⟨i+1,(by show W.length-(i+1)<W.length-i;omega),rfl,rfl,hi',hcl,rfl,rfl,rfl,trivial⟩
  ·rw[if_pos hx] at hcl
   exact ZAC rfl ⟨by rw[hcl];rfl,rfl⟩
abbrev RowN (k:Nat):={r:List Value // r.length=k}
def EmpA (h:Heap)(a:Option Addr):Prop:=a=none\/(∃b o,a=some ⟨b,o,some 0⟩)\/∃b o oa,a=some ⟨b,o,oa⟩/\ZAu h b o 0=some []
theorem EmpA.ext {h h':Heap}{a:Option Addr}(e:EmpA h a)(he:Ext h h'):EmpA h' a:=e.imp id fun hx=>hx.imp id fun ⟨b,o,oa,h1,h2⟩=>⟨b,o,oa,h1,he.row h2⟩
def StR {α:Type}(k:Nat)(R:Heap->List Value->α->Prop)(h:Heap)(rows:List (RowN k))(l:List α):Prop:=rows.length=l.length/\∀i (hi:i<l.length) (hi':i<rows.length),R h rows[i].1 l[i]
theorem ZMC {α:Type}{k:Nat}{R:Heap->List Value->α->Prop}(hk:0<k)(hR:∀h row x,R h row x->row.length=k){P:Program}{h:Heap}{a:Option Addr}{l:List α}{cap:Nat}{el tX:TypeId}{dd:TypeDesc}(hX:P.underlying tX=some dd)(hni:∀k,dd≠.int k)(hl:ZAM k R h a l)(he:l=[]->EmpA h a) :
  ∃rows:List (RowN k),StR k R h rows l/\∀h',Ext h h'->asrc P el k tX (.slice a l.length cap) h'=some (l.length,rows.flatMap Subtype.val):=by
 have key:∃rows:List (RowN k),StR k R h rows l/\SrcK Subtype.val k h a rows:=by
  by_cases h0:l=[]
  ·subst h0
   exact⟨[],⟨rfl,fun _ hi=>absurd hi (Nat.not_lt_zero _)⟩,fun _ hi=>absurd hi (Nat.not_lt_zero _),fun _=>he rfl⟩
  obtain⟨b,o,oa,rfl,-⟩:=hl 0 (List.length_pos_iff.2 h0)
  have hc:∀i:Fin l.length,∃r:RowN k,ZAu h b (o+i.1*k) k=some r.1/\R h r.1 l[i.1]:=fun i=>by
   obtain⟨b',o',oa',e,row,h1,h2⟩:=hl i.1 i.2;cases e;exact⟨⟨row,hR _ _ _ h2⟩,h1,h2⟩
  have hlen:(List.ofFn fun i=>Classical.choose (hc i)).length=l.length:=List.length_ofFn;refine⟨List.ofFn fun i=>Classical.choose (hc i),⟨hlen,fun i hi hi'=>?_⟩,fun i hi=>?_,fun e=>?_⟩
  ·rw[List.getElem_ofFn]
   exact (Classical.choose_spec (hc ⟨i,hi⟩)).2
  ·have hi2:i<l.length:=by rw[hlen] at hi;exact hi
   refine⟨b,o,oa,rfl,_,(Classical.choose_spec (hc ⟨i,hi2⟩)).1,?_⟩;rw[List.getElem_ofFn]
  ·rw[e] at hlen
   exact absurd (List.eq_nil_of_length_eq_zero hlen.symm) h0
 obtain⟨rows,h1,h2⟩:=key;refine⟨rows,h1,fun h' hE=>?_⟩;have:=(h2.ext hE).src (P:=P) (cap:=cap) (el:=el) hk (fun x=>x.2) hX hni;rw[h1.1] at this;exact this
theorem ZQL {k:Nat}(rows:List (RowN k)):(rows.flatMap Subtype.val).length=rows.length*k:=ZB7 (fun x=>x.2) rows
theorem ZOA {α:Type}{k:Nat}{R:Heap->List Value->α->Prop}(hR:∀h row x,R h row x->allOne row=true){h:Heap}:∀{rows:List (RowN k)}{l:List α},StR k R h rows l->allOne (rows.flatMap Subtype.val)=true
 | [],_,_=>rfl
 | r::rows,[],e=>by cases e.1
 | r::rows,x::l,e=>by
  have h0:=hR _ _ _ (e.2 0 (Nat.zero_lt_succ _) (Nat.zero_lt_succ _));have ih:=ZOA hR (rows:=rows) (l:=l) ⟨by simpa using e.1,fun i hi hi'=>e.2 (i+1) (Nat.succ_lt_succ hi) (Nat.succ_lt_succ hi')⟩;rw[List.getElem_cons_zero] at h0;rw[List.flatMap_cons];simp only[allOne,List.all_append,Bool.and_eq_true] at ih h0 ⊢;exact⟨h0,ih⟩
theorem ZPu {α:Type}{k:Nat}{R:Heap->List Value->α->Prop}{h:Heap}{rows:List (RowN k)}{l:List α}{i j:Nat}{v:Value}{y:α}(e:StR k R h rows l)(hi:i<l.length)(hj:j<k)(hy:∀hi',R h ((rows[i]'hi').1.set j v) y) :
  ∃rows',StR k R h rows' (l.set i y)/\(rows.flatMap Subtype.val).set (i*k+j) v=rows'.flatMap Subtype.val:=by
 have hi':i<rows.length:=by rw[e.1];exact hi
 refine⟨rows.set i ⟨rows[i].1.set j v,by rw[List.length_set];exact rows[i].2⟩,⟨by rw[List.length_set,List.length_set];exact e.1,fun q hq hq'=>?_⟩,?_⟩
 ·rw[List.getElem_set,List.getElem_set]
  rw[List.length_set] at hq
  split
  ·exact hy hi'
  ·exact e.2 q hq (by rw[e.1];exact hq)
 ·exact ZFN (enc:=Subtype.val) (fun x:RowN k=>x.2) hj (List.getElem?_eq_getElem hi') rfl
theorem ZMX {α:Type}{k:Nat}{R:Heap->List Value->α->Prop}(hR:∀{h h' row x},R h row x->Ext h h'->R h' row x){h0 h hb:Heap}{v:Value}{el:TypeId}{rows:List (RowN k)}{l:List α}(e:StR k R hb rows l)(hE:Ext hb h)(hF:ZAD h0 h v el k (rows.flatMap Subtype.val) l.length) :
  ∃a,v=.slice a l.length l.length/\ZAM k R h a l:=by
 obtain⟨a,e1,h1,-⟩:=ZAD.rowsAt (enc:=Subtype.val) (fun x:RowN k=>x.2) hF e.1.symm;rw[e.1] at e1;refine⟨a,e1,fun i hi=>?_⟩;obtain⟨b,o,oa,e2,row,h2,rfl⟩:=h1.1 i (by rw[e.1];exact hi);exact⟨b,o,oa,e2,_,h2,hR (e.2 i hi (by rw[e.1];exact hi)) hE⟩
theorem ZM3 {k:Nat}{h0 h:Heap}{b n:Nat}{sp:Option Nat}{el:TypeId}{rows:List (RowN k)}{i:Nat}(hF:ZAD h0 h (.slice (some ⟨b,0,sp⟩) n n) el k (rows.flatMap Subtype.val) n)(hi:i<rows.length):ZAu h b (0+i*k) k=some rows[i].1:=by
 rcases hF with ⟨e,_⟩|⟨b',sp',op',e,hg,hl,h4,h5⟩
 ·cases e
 ·cases e
  unfold ZAu;rw[hg];simp only;rw[Nat.zero_add];exact ZBe (f:=Subtype.val) hi fun x _=>x.2
theorem Own.add1 {h0 h:Heap}{l:List It}{y:It}(hO:Own h0 h l)(hy:y.p h)(hlo:∀c,y.S c->h0.nx<=c)(hne:∀x∈l,∀c,x.S c->¬y.S c):Own h0 h (y::l):=by
 refine⟨fun z hz=>?_,fun z hz c hc=>?_,List.pairwise_cons.2 ⟨fun z hz c hc hzc=>hne z hz c hzc hc,hO.ap⟩⟩
 ·rcases List.mem_cons.1 hz with rfl|hz
  ·exact hy
  ·exact hO.has z hz
 ·rcases List.mem_cons.1 hz with rfl|hz
  ·exact hlo c hc
  ·exact hO.lo z hz c hc
section
variable {P:Program}{fr:Fr}{m:Mem}{ds:List ADef}{h:Heap}{ops:Array Oper}{d:Option Tmp}{ty:TypeId}{pos:String}{af:Array Edge}{gu:Option (Nat×Bool)}{K Kp:Value->List ADef->Heap->Prop}
theorem ZHT {h0:Heap}{I:List It}{Rs:Nat->Prop}{o:Oper}{tS tX el:TypeId}{sz by':Nat}{c:Call}{s x:Operand}{v xv:Value}{cs l:List Value}{n k:Nat}{ts:List TypeId}(ho:o=⟨d,.call c,ty,pos,af,gu⟩)(hw0:WF h0)(he0:Ext h0 h)(hg:gk ops.toList m gu=some true)(hc:c.callee=.builtin .append)(hargs:c.args=#[s,x])(hat:c.argTypes.toList=tS::tX::ts)(hS:P.underlying tS=some (.slice el))(hE:Elm P el sz by')
  (hs:opk h m s=some v) (hx:opk h m x=some xv) (hO:Own h0 h (slI h0 v el sz cs n::I)) (hsrc:asrc P el sz tX xv h=some (k,l)) (hl:l.length=k*sz) (h1:allOne l=true)
  (hb:((n+k)+(n+k) / 4+512)*by'<=281474976710656) (hb2:n+k<281474976710656) (hn1:∀x∈slI h0 v el sz cs n::I,∀c,x.S c->¬Rs c) (hn2:∀c,Rs c->c<h.nx)
  (hk:∀v' h',Own h0 h' (slI h0 v' el sz (cs++l) (n+k)::I)->Ext h0 h'->(∀x∈slI h0 v' el sz (cs++l) (n+k)::I,∀c,x.S c->¬Rs c)->h.nx<=h'.nx->K v' ds h'):W1 P fr ops o m ds h K Kp:=by
 refine ZOv fun hw=>ZEk ho hw0 hw he0 hg hc hargs hat hS hE hs hx hO.p1 hsrc hl h1 hb hb2 fun v' h' hF hE' hK hx' hv=>hk v' h' (hO.putSl hw he0 hF hE' hK hx' hv) hE' (fun y hy c hc hr=>?_) hx'
 rcases List.mem_cons.1 hy with rfl|hy
 ·rcases hv with g|⟨b,g,hb⟩
  ·exact hn1 _ List.mem_cons_self c (by show ZBB v=some c;rw[<-g];exact hc) hr
  ·rw[show ZBB v'=some c from hc] at g
   cases g;have:=hn2 c hr;omega
 ·exact hn1 y (List.mem_cons_of_mem _ hy) c hc hr
end
end Go.Dw
