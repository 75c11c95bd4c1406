/- M1: contracts: records that are looked for; a further record. -/
import Derived.Test.YthlmgoefjmlndaaGreatDoorXG2
import Derived.Test.YthlmgoefjmlndaaGreatDoorXG20
import Derived.Test.YthlmgoefjmlndaaGreatDoorXG18
import Derived.Test.YthlmgoefjmlndaaGreatDoorXG8
set_option linter.unusedVariables false
set_option linter.unusedSimpArgs false
namespace Go.Dw
open Go Go.Dx Go.Proofs
set_option maxRecDepth 100000
def ZTM (l:List WkR)(x:WkR):Bool:=decide (∀y∈l,y.key≠x.key)
section
variable {P:Program}{m:Mem}{h:Heap}{d:Option Tmp}{ty:TypeId}{pos:String}{af:Array Edge}{gu:Option (Nat×Bool)}
theorem ZN9 {x:Operand}{t:TypeId}{ts:List TypeId}{el:TypeId}{len cap:Nat}{c:Call}(hc:c.callee=.builtin .cap)(hargs:c.args=#[x])(hat:c.argTypes.toList=t::ts)(ht:P.underlying t=some (.slice el))
  (hx:opk h m x=some (.slice none len cap)):Aop P ⟨d,.call c,ty,pos,af,gu⟩ m h (.int .i64 (cap:Int)) h :=
 ZAZ fun e hs=>by
  show ZCx P _ h e c=_
  unfold ZCx;rw[hc];simp only[hargs,hat,ZBJ,ZAI hs hx,acap,ht];rfl
theorem ZRf {t el:TypeId}{sz:Nat}{x j:Operand}{kj:IntKind}(ht:P.underlying t=some (.slice el))(hz:tsz P el=some sz)(hx:opk h m x=some (.slice none 0 0))(hj:opk h m j=some (.int kj 0)):Aop P ⟨d,.slice t x none (some j) none,ty,pos,af,gu⟩ m h (.slice none 0 0) h:=by
 refine ZFQ hx hj rfl rfl rfl fun ev w h1 h2=>?_;have hsb:sb 0 0 none (some (.int kj 0)) none=some (0,0,0):=rfl;obtain⟨hrun,_,hm0,_⟩:=ZMi (P:=P) (ι:=fun _=>none) (lo':=none) (hi':=some (.int kj 0)) (mx':=none) .none (.some (.int kj 0)) .none hsb (Nat.le_refl _) true w;simp only[execOp,h1,h2,Option.map_some,Option.map_none,Instr.sliceAt,Instr.slice,Sem.run_bind,run_underlying ht,Result.andThen_ok,hrun,Dx.run_sizeOf hz,Sem.run_pure]
 rfl
theorem ZNw {t el:TypeId}{x j:Operand}{kj:IntKind}{b n:Nat}(hn:0<n)(ht:P.underlying t=some (.slice el))(hz:tsz P el=some 6)(hx:opk h m x=some (.slice (some ⟨b,0,some 6⟩) n n))(hj:opk h m j=some (.int kj 0)):Aop P ⟨d,.slice t x none (some j) none,ty,pos,af,gu⟩ m h (.slice (some ⟨b,0,some 6⟩) 0 n) h :=
 ZAZ fun e hs=>by
  show ZCe P _ h e t x none (some j) none=_
  unfold ZCe;simp only[ZAI hs hx,opvo,ZAI hs hj];have:ZCE P t (.slice (some ⟨b,0,some 6⟩) n n) none (some (.int kj 0)) none=some (.slice (some ⟨b,0,some 6⟩) 0 n):=by
   have hb1:Nat.ble n n=true:=Nat.ble_eq_true_of_le (Nat.le_refl _);have c1:bnd none n n=some n:=by simp only[bnd,hb1]
   have c2:bnd (some (.int kj 0)) n n=some 0:=by
    have:Nat.ble 0 n=true:=Nat.ble_eq_true_of_le (Nat.zero_le _)
    show bnd (some (.int kj (Int.ofNat 0))) n n=some 0
    simp only[bnd,ZDU,this]
   have c3:bnd none 0 0=some 0:=rfl;have c4:sb n n none (some (.int kj 0)) none=some (0,0,n):=by
    unfold sb;simp only[c1,c2,c3]
   unfold ZCE;rw[ht];simp only[c4,hz]
   rfl
  simp only[this]
end
section
variable {P:Program}{fr:Fr}{m:Mem}{ds:List ADef}{h:Heap}{Q:CQ}{ops:Array Oper}{lo:List Oper}{d:Nat}{ty:TypeId}{pos:String}{af:Array Edge}{gu:Option (Nat×Bool)}
theorem ZHU {tS tX el:TypeId}{by':Nat}{c:Call}{s x:Operand}{xv:Value}{l vs r:List Value}{b n k cap:Nat}{sp:Option Nat}{op:Bool}{ts:List TypeId}(hg:gk ops.toList m gu=some true)(hlt:Nat.blt d fr.nt=true)(hc:c.callee=.builtin .append)(hargs:c.args=#[s,x])(hat:c.argTypes.toList=tS::tX::ts)(hS:P.underlying tS=some (.slice el))(hE:Elm P el 6 by')
  (hs:opk h m s=some (.slice (some ⟨b,0,sp⟩) n cap)) (hsp:sp=none\/sp=some 6) (hx:opk h m x=some xv) (hsrc:asrc P el 6 tX xv h=some (k,l)) (h1:allOne l=true) (hgt:h.get b=some (.cells vs el op)) (hroom:n+k<=cap) (hlay:lay vs (n*6) l=some r)
  (hk:∀h',Upd h b (.cells r el op) h'->Wo P fr ops lo (upd m d (.slice (some ⟨b,0,sp⟩) (n+k) cap)) ds h' Q):Wo P fr ops (⟨some d,.call c,ty,pos,af,gu⟩::lo) m ds h Q:=by
 refine ZAB hg (by show ZBP c.callee=true;rw[hc];rfl) rfl hlt (ZAZ fun e hsat=>?_) (hk _ (Upd.mk' h b _))
 show ZCx P _ h e c=_
 unfold ZCx;rw[hc];simp only[hargs,hat,ZBJ,ZAI hsat hs,ZAI hsat hx];obtain⟨i,z,i1,i2,i3,i4,i5,i6⟩:=hE.h;have e1:Nat.ble (Nat.add n k) cap=true:=Nat.ble_eq_true_of_le hroom;have hlay':lay vs (Nat.add 0 (Nat.mul n 6)) l=some r:=by
  rw[show Nat.add 0 (Nat.mul n 6)=n*6 from by show 0+n*6=n*6;omega];exact hlay
 unfold ZBs;simp only[hS,i1,i4,i2,i5,i6,hsrc]
 rcases hsp with rfl|rfl
 ·simp only[hgt,h1,e1,hlay'];rfl
 ·simp only[hgt,h1,e1,hlay'];rfl
end
theorem ZLp {P:Program}{el tX:TypeId}{kk ki:IntKind}{h:Heap}{n:Nat}{z:Value}{by':Nat}(hX:P.underlying tX=some (.int kk))(hE:Elm P el 6 by')(hZ:ZAu P el=some z)(hb:n*by'<=281474976710656)(hb2:n<281474976710656):asrc P el 6 tX (.int ki n) h=some (n,rep n z.cells.toList):=by
 obtain⟨i,z',i1,i2,i3,i4,i5,i6⟩:=hE.h;rw[hZ] at i4;cases i4;have e1:Nat.ble (Nat.mul n by') 281474976710656=true:=Nat.ble_eq_true_of_le hb;have e2:Nat.blt n 281474976710656=true:=by rw[Nat.blt_eq];exact hb2
 unfold asrc;rw[hX];simp only[show ZDU (.int ki (n:Int))=some n from rfl,hZ,i1,i3,e1,e2,i5,i6]
theorem ZHv {l:List Value}(h:allOne l=true):∀n,allOne (rep n l)=true
 | 0=>rfl
 | n+1=>by
  rw[ZD1];have:=ZHv h n;unfold allOne at this h ⊢;rw[List.all_append,h,this];rfl
abbrev zW:List Value:=[str [],i64 0,i64 0,i64 0,str [],str []]
theorem ZQZ {h:Heap}{n:Nat}{x:Int}(hx:x=n)(hn:0<n)(hn2:n<1000000)(hw:WF h) :
  Sv Tryz.prog 135 [.slice none 0 0,i64 x] h (RetP fun v h'=>∃b sp op,v=.slice (some ⟨b,0,sp⟩) 0 n/\(sp=none\/sp=some 6)/\h'.get b=some (.cells (rep n zW) 44 op)/\h.nx<=b/\Ext h h'):=by
 subst hx;refine ZAE Tryz.func135 rfl (by rw[Tryz.ntmps135];rfl) ?_;show Wc Tryz.prog ⟨135,27,none⟩ _ _ _ _ _;refine zy ?_;refine ZAB rfl rfl rfl rfl (A_ff (by omega) (ZAX rfl rfl)) ?_;refine zy ?_;refine ZAB rfl rfl rfl rfl (ZN9 rfl rfl rfl Und.h rfl) ?_;refine zy ?_;refine ZAB rfl rfl rfl rfl (A_tt (by omega) (ZCA rfl rfl)) ?_;refine zy ?_;refine ZAB rfl rfl rfl rfl (ZN9 rfl rfl rfl Und.h rfl) ?_;refine ZAB rfl rfl rfl rfl (ZRf Und.h Tsz.h rfl rfl) ?_;refine zy ?_;refine ZC6 (h0:=h) (by':=72) (sz:=6) (k:=n) (n:=0) (cs:=[]) (l:=rep n zW) hw (Ext.refl h) rfl rfl rfl rfl rfl Und.h inferInstance rfl rfl (ZAA.nil _ _ _ _) ?_ (by rw[ZBw];rfl) (ZHv rfl n) (by omega) (by omega) fun v' h' hF hE _ _ _=>?_
 ·have e:((n:Int)-((0:Nat)-(0:Nat):Int))=(n:Int):=by omega
  have:=ZLp (P:=Tryz.prog) (el:=44) (tX:=3) (ki:=.i64) (h:=h) (n:=n) Und.h inferInstance Zr.h (by omega) (by omega);rw[<-e] at this;exact this
 rw[List.nil_append,Nat.zero_add] at hF;have key:∃b sp op,v'=.slice (some ⟨b,0,sp⟩) n n/\(sp=none\/sp=some 6)/\h'.get b=some (.cells (rep n zW) 44 op)/\h.nx<=b:=by
  rcases hF with ⟨_,_,e⟩|⟨b,sp,op,e,g1,g2,g3,g4⟩
  ·omega
  ·exact⟨b,sp,op,e,g4,g1,g3⟩
 obtain⟨b,sp,op,rfl,hsp,hg,hb⟩:=key;refine zy ?_
 rcases hsp with rfl|rfl
 ·refine ZAB rfl rfl rfl rfl (ZEw (k:=0) Und.h Tsz.h rfl rfl rfl (Nat.zero_le _)) ?_
  refine zy ?_;exact ZAF (ZAG rfl ⟨b,none,op,rfl,.inl rfl,hg,hb,hE⟩)
 ·refine ZAB rfl rfl rfl rfl (ZNw hn Und.h Tsz.h rfl rfl) ?_
  refine zy ?_;exact ZAF (ZAG rfl ⟨b,some 6,op,rfl,.inr rfl,hg,hb,hE⟩)
theorem ZOQ {h:Heap}{x:Int}(hx:x=0) :
  Sv Tryz.prog 135 [.slice none 0 0,i64 x] h (RetP fun v h'=>v=.slice none 0 0/\h'=h):=by
 subst hx;refine ZAE Tryz.func135 rfl (by rw[Tryz.ntmps135];rfl) ?_;show Wc Tryz.prog ⟨135,27,none⟩ _ _ _ _ _;refine zy ?_;refine ZAB rfl rfl rfl rfl (A_ff (by omega) (ZAX rfl rfl)) ?_;refine zy ?_;refine ZAB rfl rfl rfl rfl (ZN9 rfl rfl rfl Und.h rfl) ?_;refine zy ?_;refine ZAB rfl rfl rfl rfl (A_ff (by omega) (ZCA rfl rfl)) ?_;refine zy ?_;exact ZAF (ZAG rfl ⟨rfl,rfl⟩)
def CatR (h:Heap)(row:List Value)(l:List WkR):Prop:=∃a cap,row=[.slice a l.length cap]/\SrcK rowW 6 h a l
theorem CatR.ext {h h':Heap}{row:List Value}{l:List WkR}(hr:CatR h row l)(hE:Ext h h'):CatR h' row l:=by
 obtain⟨a,cap,e,hl⟩:=hr;exact⟨a,cap,e,hl.ext hE⟩
theorem ZOf {L:List (List WkR)}{i:Nat}(hi:i<L.length):(L.take (i+1)).flatten=(L.take i).flatten++L[i]:=by
 rw[List.take_add_one,List.getElem?_eq_getElem hi,Option.toList_some,List.flatten_append,List.flatten_cons,List.flatten_nil,List.append_nil]
theorem ZQI {L:List (List WkR)}(i:Nat):(L.take i).flatten.length<=L.flatten.length:=by
 conv=>rhs;rw[<-List.take_append_drop i L,List.flatten_append,List.length_append]
 omega
theorem ZRO {L:List (List WkR)}(hs:∀l∈L,l.length<=200):L.flatten.length<=200*L.length:=by
 induction L with
 | nil=>simp
 | cons l L ih =>
  rw[List.flatten_cons,List.length_append,List.length_cons];have h1:=hs l List.mem_cons_self;have h2:=ih fun x hx=>hs x (List.mem_cons_of_mem _ hx);omega
set_option maxHeartbeats 4000000 in
theorem ZNH {h:Heap}{L:List (List WkR)}{a:Option Addr}{c:Nat}(hL:ZAh 1 CatR h a L)(hl8:L.length<=8)(hs:∀l∈L,l.length<=200) :
  Sv Tryz.prog 87 [.slice a L.length c] h (RetP fun v h'=>ZAA h h' v 44 6 (L.flatten.flatMap rowW) L.flatten.length/\Ext h h'):=by
 refine ZDV fun hw=>?_;have hmx:=ZRO hs;obtain⟨n,hn⟩:∃n,n=L.flatten.length:=⟨_,rfl⟩;refine ZAE Tryz.func87 rfl (by rw[Tryz.ntmps87];rfl) ?_;show Wc Tryz.prog ⟨87,36,none⟩ _ _ _ _ _;refine zy ?_;refine ZAO (fun (i:Nat) me ds h'=>ds=[]/\h=h'/\i<=L.length/\AllK me [(0,.slice a L.length c),(3,i64 ((L.take i).flatten.length:Nat)),(9,.slice a L.length c),(10,i64 L.length),(11,i64 i)]) (fun i=>L.length-i) 0 ?_ ?_
 ·exact⟨rfl,rfl,Nat.zero_le _,rfl,rfl,rfl,rfl,rfl,trivial⟩
 rintro i me ds _ ⟨rfl,rfl,hi,hall⟩;refine Wc.le ?_ (Le.kn hall);have hle:=ZQI (L:=L) i;refine zy ?_;refine ZAP rfl rfl rfl rfl (ZAX rfl rfl) (fun hlt=>?_) (fun hlt=>?_)
 ·have hi':i<L.length:=by omega
  obtain⟨b,o,oa,rfl,row,hrow,ai,ci,er,hsi⟩:=hL i hi';subst er;have hc:ZAb h b (o+i*1+0)=some (.slice ai L[i].length ci):=ZAW (k:=0) hrow rfl;have hle2:=ZQI (L:=L) (i+1);have hs:=ZOf hi';have hs2:=congrArg List.length hs;rw[List.length_append] at hs2;refine zy ?_;refine ZAB rfl rfl rfl rfl (A_ix Und.h Tsz.h rfl rfl) ?_;refine zy ?_;refine ZAB rfl rfl rfl rfl (A_ff (by omega) (ZAX rfl rfl)) ?_;refine zy ?_;refine⟨i+1,(by show L.length-(i+1)<L.length-i;omega),rfl,rfl,hi',rfl,?_,rfl,rfl,rfl,trivial⟩
  show some (i64 (((L.take i).flatten.length:Nat)+(L[i].length:Nat)))=some (i64 ((L.take (i+1)).flatten.length:Nat))
  rw[hs2];congr 2
 have hiL:i=L.length:=by omega
 subst hiL;rw[List.take_length,<-hn];clear hle hall
 rcases Nat.eq_zero_or_pos n with h0|h0
 ·have hz:∀l∈L,l=[]:=fun l hl=>by
   have h1:L.flatten=[]:=List.eq_nil_of_length_eq_zero (hn.symm.trans h0);exact List.flatten_eq_nil_iff.1 h1 l hl
  have hfl:L.flatten=[]:=List.eq_nil_of_length_eq_zero (hn.symm.trans h0);rw[h0];refine zy ?_;refine ZAR rfl rfl rfl rfl rfl Bod.h rfl rfl (ZOQ rfl) ?_;refine zy ?_;refine ZAO (fun (st:Nat×Value) me ds h'=>ds=[]/\Ext h h'/\st.1<=L.length/\ZAA h h' st.2 44 6 [] 0/\AllK me [(0,.slice a L.length c),(6,st.2),(25,.slice a L.length c),(26,i64 L.length),(27,i64 (st.1:Nat))]) (fun st=>L.length-st.1) (0,.slice none 0 0) ?_ ?_
  ·exact⟨rfl,Ext.refl _,Nat.zero_le _,.nil _ _ _ _,rfl,rfl,rfl,rfl,rfl,trivial⟩
  rintro⟨i,v⟩ me ds h1 ⟨rfl,hE1,hi,hF,hall⟩;refine Wc.le ?_ (Le.kn hall);clear hall;simp only at hi hF;refine zy ?_;refine ZAP rfl rfl rfl rfl (ZAX rfl rfl) (fun hlt=>?_) (fun hlt=>?_)
  ·have hi':i<L.length:=by omega
   obtain⟨b,o,oa,rfl,row,hrow0,hx⟩:=hL i hi';have hrow:=hE1.row hrow0;obtain⟨ai,ci,er,hsi⟩:=hx.ext hE1;rw[hz _ (List.getElem_mem hi')] at er hsi;subst er;have hc:ZAb h1 b (o+i*1+0)=some (.slice ai 0 ci):=ZAW (k:=0) hrow rfl;refine zy ?_;refine ZAB rfl rfl rfl rfl (A_ix Und.h Tsz.h rfl rfl) ?_;refine zy ?_;refine ZC6 (h0:=h) (k:=0) (n:=0) (l:=[]) hw hE1 rfl rfl rfl rfl rfl Und.h inferInstance rfl rfl hF (SrcK.src (enc:=rowW) (k:=6) (l:=[]) (dd:=.slice 44) (by decide) (fun _=>rfl) hsi Und.h (by intro k;simp)) rfl rfl (by omega) (by omega) fun v' h' hF' hE' _ _ _=>?_;refine zy ?_;exact⟨(i+1,v'),(by show L.length-(i+1)<L.length-i;omega),rfl,hE',hi',hF',rfl,rfl,rfl,rfl,rfl,trivial⟩
  refine zy ?_;refine ZAF (ZAG rfl ⟨?_,hE1⟩);rw[hfl];exact hF
 refine zy ?_;refine ZAJ rfl rfl rfl rfl rfl Bod.h rfl rfl (ZQZ (n:=n) rfl h0 (by omega) hw) ?_;rintro _ h1 ⟨b,sp,op,rfl,hsp,hg,hb,hE⟩;refine zy ?_;refine ZAO (fun (i:Nat) me ds h'=>ds=[]/\i<=L.length/\∃vs,h'.get b=some (.cells vs 44 op)/\vs.length=n*6/\vs.take ((L.take i).flatten.length*6)=(L.take i).flatten.flatMap rowW/\Exb (fun c=>c=b) h1 h'/\AllK me [(0,.slice a L.length c),(6,.slice (some ⟨b,0,sp⟩) (L.take i).flatten.length n),(25,.slice a L.length c),(26,i64 L.length),(27,i64 i)]) (fun i=>L.length-i) 0 ?_ ?_
 ·exact⟨rfl,Nat.zero_le _,_,hg,by rw[ZBw];rfl,rfl,Exb.refl _ _,rfl,rfl,rfl,rfl,rfl,trivial⟩
 rintro i me ds h2 ⟨rfl,hi,vs,hg2,hvl,hvt,hX,hall⟩;refine Wc.le ?_ (Le.kn hall);clear hall;have hE2:Ext h h2:=hX.ext hE hw fun c e=>by omega
 have hle:=ZQI (L:=L) i;refine zy ?_;refine ZAP rfl rfl rfl rfl (ZAX rfl rfl) (fun hlt=>?_) (fun hlt=>?_)
 ·have hi':i<L.length:=by omega
  obtain⟨b',o,oa,rfl,row,hrow0,hx⟩:=hL i hi';have hrow:=hE2.row hrow0;obtain⟨ai,ci,er,hsi⟩:=hx.ext hE2;subst er;have hc:ZAb h2 b' (o+i*1+0)=some (.slice ai L[i].length ci):=ZAW (k:=0) hrow rfl;have hle2:=ZQI (L:=L) (i+1);have hft:=ZOf hi';have hs2:=congrArg List.length hft;rw[List.length_append] at hs2;have hfm:(L[i].flatMap rowW).length=L[i].length*6:=ZA1 (enc:=rowW) (k:=6) (fun _=>rfl) _;refine zy ?_;refine ZAB rfl rfl rfl rfl (A_ix Und.h Tsz.h rfl rfl) ?_;refine zy ?_;refine ZHU (by':=72) (l:=L[i].flatMap rowW) (k:=L[i].length) rfl rfl rfl rfl rfl Und.h inferInstance rfl hsp rfl (SrcK.src (enc:=rowW) (k:=6) (dd:=.slice 44) (by decide) (fun _=>rfl) hsi Und.h (by intro k;simp)) (ZJe _) hg2 (by omega) (ZB1 (by rw[hfm];omega)) fun h3 hU3=>?_
  refine zy ?_;refine⟨i+1,(by show L.length-(i+1)<L.length-i;omega),rfl,hi',_,hU3.at',?_,?_,hX.upd hU3 rfl,rfl,?_,rfl,rfl,rfl,trivial⟩
  ·simp only[List.length_append,List.length_take,List.length_drop,hfm];omega
  ·rw[hvt,hs2,hft,List.flatMap_append,<-List.append_assoc]
   refine List.take_left' ?_;rw[List.length_append,hfm,ZA1 (enc:=rowW) (k:=6) (fun _=>rfl)];omega
  ·rw[hs2];rfl
 have hiL:i=L.length:=by omega
 subst hiL;rw[List.take_length,<-hn] at hvt;refine zy ?_;refine ZAF (ZAG rfl ⟨?_,hE2⟩);rw[List.take_of_length_le (by omega)] at hvt;rw[List.take_length,<-hn];exact .inr ⟨b,sp,op,rfl,by rw[<-hvt];exact hg2,by rw[<-hvt,hvl],hb,hsp⟩
def mrgE (L:List (List WkR)):Int:=((L.map fun l=>(chkS l).2).find? fun e=>decide (e≠0)).getD 0
theorem ZRd {L:List (List WkR)}{i:Nat}(hi:i<L.length)(h:∀l∈L.take i,(chkS l).2=0)(hb:(chkS L[i]).2≠0):mrgE L=(chkS L[i]).2:=by
 unfold mrgE;have e:L=L.take i++L[i]::L.drop (i+1):=by rw[<-List.drop_eq_getElem_cons hi,List.take_append_drop]
 conv=>lhs;rw[e]
 rw[List.map_append,List.find?_append,List.find?_eq_none.2 (by
  intro x hx;obtain⟨l,hl,rfl⟩:=List.mem_map.1 hx;simp[h l hl])]
 rw[List.map_cons,Option.none_or,List.find?_cons_of_pos (p:=fun e:Int=>decide (e≠0)) (a:=(chkS L[i]).2) (decide_eq_true hb)]
 rfl
theorem ZKb {L:List (List WkR)}(h:∀l∈L,(chkS l).2=0):mrgE L=0:=by
 unfold mrgE
 rw[List.find?_eq_none.2 (by
  intro x hx;obtain⟨l,hl,rfl⟩:=List.mem_map.1 hx;simp[h l hl])]
 rfl
def ZBl (L:List (List WkR)):List WkR×Int :=
 if 8<L.length then ([],3) else if mrgE L≠0 then ([],mrgE L) else if 200<(mrgU ltW L.flatten).length then ([],3) else (mrgU ltW L.flatten,0)
theorem ZLN {h:Heap}:SrcK rowW 6 h none []:=⟨fun i hi=>absurd hi (Nat.not_lt_zero _),fun _=>.inl rfl⟩
set_option maxHeartbeats 2000000 in
theorem ZKR {a:Option Addr}{c:Nat}{L:List (List WkR)}{h:Heap}(hL:ZAh 1 CatR h a L)(hlen:Len L)(hf:∀l∈L,l.length*72<=140737488351232/\∀x∈l,x.Fit)(hW:WkLib h) :
  Sv Tryz.prog 47 [.slice a L.length c] h (RetP fun v h'=>(∃aM cM,v=.tuple ⟨[.slice aM (ZBl L).1.length cM,i64 (ZBl L).2]⟩/\SrcK rowW 6 h' aM (ZBl L).1/\ZHl Tryz.prog 44 aM (ZBl L).1.length cM)/\Ext h h'):=by
 refine ZAE Tryz.func47 rfl (by rw[Tryz.ntmps47];rfl) ?_;show Wc Tryz.prog ⟨47,34,none⟩ _ _ _ _ _;refine zy ?_
 by_cases h8:8<L.length
 ·refine ZAB rfl rfl rfl rfl (A_tt (by omega) (ZCA rfl rfl)) ?_
  refine zy ?_;have e:ZBl L=([],3):=if_pos h8;rw[e];exact ZAF (ZAG rfl ⟨⟨none,0,rfl,ZLN,.inl ⟨rfl,rfl⟩⟩,Ext.refl _⟩)
 refine ZAB rfl rfl rfl rfl (A_ff (by omega) (ZCA rfl rfl)) ?_;have e:ZBl L=if mrgE L≠0 then ([],mrgE L) else if 200<(mrgU ltW L.flatten).length then ([],3) else (mrgU ltW L.flatten,0):=if_neg h8
 rw[e];clear e;refine zy ?_;refine ZAO (fun (i:Nat) m ds h'=>ds=[]/\Ext h h'/\i<=L.length/\(∀l∈L.take i,(chkS l).2=0)/\AllK m [(0,.slice a L.length c),(12,.slice a L.length c),(13,i64 L.length),(14,i64 (i:Nat))]) (fun i=>L.length-i) 0 ?_ ?_
 ·exact⟨rfl,Ext.refl _,Nat.zero_le _,by simp,rfl,rfl,rfl,rfl,trivial⟩
 rintro i m ds h1 ⟨rfl,hE1,hi,hok,hall⟩;refine Wc.le ?_ (Le.kn hall);clear hall;refine zy ?_;refine ZAP rfl rfl rfl rfl (ZAX rfl rfl) (fun hlt=>?_) (fun hlt=>?_)
 ·have hi':i<L.length:=by omega
  obtain⟨b,o,oa,rfl,row,hrow0,hx⟩:=hL i hi';have hrow:=hE1.row hrow0;obtain⟨ai,ci,er,hsi⟩:=hx.ext hE1;obtain⟨hb,hfi⟩:=hf _ (List.getElem_mem hi');have htk:L.take (i+1)=L.take i++[L[i]]:=by rw[List.take_add_one,List.getElem?_eq_getElem hi'];rfl
  have hat:=ZRd hi' hok;subst er;generalize L[i]=l at *;have hc:ZAb h1 b (o+i*1+0)=some (.slice ai l.length ci):=ZAW (k:=0) hrow rfl;refine zy ?_;refine ZAB rfl rfl rfl rfl (A_ix Und.h Tsz.h rfl rfl) ?_;refine zy ?_;refine ZAT rfl rfl rfl rfl rfl Bod.h rfl rfl (ZB6 hsi.1 hfi (show _<_ by omega) (hW.ext hE1)) fun h2 hE2=>?_;refine zy ?_;refine ZAP rfl rfl rfl rfl (ZCH rfl rfl) (fun hc0=>?_) (fun hc0=>?_)
  ·refine zy ?_
   have h0:(chkS l).2≠0:=hc0;rw[hat h0,if_pos h0];exact ZAF (ZAG rfl ⟨⟨none,0,rfl,ZLN,.inl ⟨rfl,rfl⟩⟩,hE1.trans hE2⟩)
  have h0:(chkS l).2=0:=Decidable.not_not.1 hc0;refine zy ?_;refine⟨i+1,(by show L.length-(i+1)<L.length-i;omega),rfl,hE1.trans hE2,hi',fun l' hl'=>?_,rfl,rfl,rfl,rfl,trivial⟩;rw[htk,List.mem_append,List.mem_singleton] at hl'
  rcases hl' with hl'|rfl
  ·exact hok l' hl'
  ·exact h0
 have hiL:i=L.length:=by omega
 subst hiL;rw[List.take_length] at hok;rw[ZKb hok,if_neg (fun q=>q rfl)];have hs:∀l∈L,l.length<=200:=fun l hl=>ZDf (hok l hl);have hmx:=ZRO hs;refine zy ?_;refine ZAJ rfl rfl rfl rfl rfl Bod.h rfl rfl (ZNH (ZAh.ext (fun hr hE=>hr.ext hE) hL hE1) (by omega) hs) ?_;rintro _ h2 ⟨hF2,hE2⟩;obtain⟨a2,rfl,hS2,hn2⟩:=ZAA.rowsAt (enc:=rowW) (k:=6) (fun _=>rfl) hF2 rfl;have hnn:a2=none->L.flatten=[]/\L.flatten.length=0:=fun e=>⟨hn2 e,by rw[hn2 e];rfl⟩;refine zy ?_;refine ZAJ rfl rfl rfl rfl rfl Bod.h rfl rfl (ZEE hS2 hnn (by omega)) ?_;rintro _ h3 ⟨hE3,a3,c3,rfl,hS3,hT3⟩;have hE13:=(hE1.trans hE2).trans hE3
 have hml:=ZEn ZAg L.flatten;generalize mrgU ltW L.flatten=M at *;refine zy ?_
 by_cases h200:200<M.length
 ·refine ZAB rfl rfl rfl rfl (A_tt (by omega) (ZCA rfl rfl)) ?_
  rw[if_pos h200];refine zy ?_;exact ZAF (ZAG rfl ⟨⟨none,0,rfl,ZLN,.inl ⟨rfl,rfl⟩⟩,hE13⟩)
 ·refine ZAB rfl rfl rfl rfl (A_ff (by omega) (ZCA rfl rfl)) ?_
  rw[if_neg h200];refine zy ?_;exact ZAF (ZAG rfl ⟨⟨a3,c3,rfl,hS3,hT3⟩,hE13⟩)
theorem ZDq {a:Option Addr}{c:Nat}{L:List (List WkR)}{h:Heap}(hL:ZAh 1 CatR h a L)(hlen:Len L)(hf:∀l∈L,l.length*72<=140737488351232/\∀x∈l,x.Fit)(hW:WkLib h) :
  Sv Tryz.prog 47 [.slice a L.length c] h (RetP fun v h'=>(∃aM cM,v=.tuple ⟨[.slice aM (ZBl L).1.length cM,i64 (ZBl L).2]⟩/\SrcK rowW 6 h' aM (ZBl L).1)/\Ext h h') :=
 (ZKR hL hlen hf hW).ret fun _ _ hr=>by
  obtain⟨⟨aM,cM,e,hS,-⟩,hE⟩:=hr;exact⟨⟨aM,cM,e,hS⟩,hE⟩
def stkL (s:List WkR)(t:Int)(p:Str):List Str:=mrgU ltB ((itmW s).filter fun k=>decide (ZRI s t k=p))
def ZTL (l:List WkR)(p:Str)(t:Int):List Str×Int :=
 if (chkS l).2≠0 then ([],(chkS l).2) else if ZAy p=false then ([],6) else if t<0\/80000<t then ([],7) else (stkL (ZAn (mrgU ltW l)) t p,0)
end Go.Dw
