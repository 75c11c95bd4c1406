/- T6: contracts: a reader takes a number; lines one by one (strings.Lines). -/
import Derived.Laws.Strings2
import Derived.Test.YtfgeelpahicelaaGreatDoorYG2
import Derived.Test.YtfgeelpahicelaaGreatDoorYG18
import Derived.Test.YtfgeelpahicelaaGreatDoorYG19
import Derived.Test.YtfgeelpahicelaaGreatDoorYG16
import Derived.Test.YtfgeelpahicelaaGreatDoorYG15
set_option linter.unusedVariables false
set_option linter.unusedSimpArgs false
namespace Go.Dw
open Go Go.Dx Go.Proofs
set_option maxRecDepth 100000
set_option maxHeartbeats 2000000 in
theorem ZEe {h0 h:Heap}{I:List It}{b:Nat}{s:Byt}{op:Bool}(hw0:WF h0)(he0:Ext h0 h)(hO:Own h0 h (ceI b [str s] 204 op::I))(hs:s.length<=1000000)(hE:ErrAt h)(hgl:h.gl≠0) :
  Sv Tryz.prog 122 [.pointer (some ⟨b,0,none⟩)] h (fun r=>match r with
   | .ret v h'=>∃n t,numS s=some (n,t)/\v=i64 n/\Own h0 h' (ceI b [str t] 204 op::I)/\Ext h0 h'
   | .pan v h'=>numS s=none/\v=ZJt/\Own h0 h' (ceI b [str s] 204 op::I)/\Ext h0 h'
   | .no=>False):=by
 have hg:h.get b=some (.cells [str s] 204 op):=hO.p1;have hcut:=ZN5 s h hs
 have hcl:∀p,cutB 32 s=some p->p.1.length<=1000000:=fun p hp=>by
  rcases ZE9 32 s with ⟨-,e2,-⟩|⟨k,-,hk,e2,-,-⟩
  ·rw[e2] at hp;cases hp
  ·rw[e2] at hp;cases hp
   simp only[List.length_take];omega
 unfold cutV at hcut;unfold numS;refine ZEz Tryz.func122 rfl (by rw[Tryz.ntmps122];rfl) ?_
 show Wc Tryz.prog ⟨122,33,none⟩ _ _ _ _ _
 refine zy ?_;refine ZAP rfl rfl rfl rfl rfl Bod.h rfl rfl hcut ?_
 cases hq:cutB 32 s with
 | none =>
  simp only;refine zy ?_;refine ZAb rfl rfl rfl rfl rfl Bod.h rfl rfl (ZKz (by omega) hE hgl) ?_;rintro _ h1 ⟨hE1,⟨n,-,rfl⟩|⟨-,n,t,c,rfl⟩⟩
  ·refine zy ?_
   refine ZBL rfl rfl rfl rfl rfl Bod.h rfl rfl (ZDD false h1) (fun v h2 hv=>?_) (fun v h2 hv=>?_)
   ·rw[if_neg (by decide)] at hv;cases hv
   ·rw[if_neg (by decide)] at hv
    cases hv;exact ZEs ⟨trivial,rfl,hO.ext hE1,he0.trans hE1⟩
  ·refine zy ?_
   refine ZBL rfl rfl rfl rfl rfl Bod.h rfl rfl (ZDD false h1) (fun v h2 hv=>?_) (fun v h2 hv=>?_)
   ·rw[if_neg (by decide)] at hv;cases hv
   ·rw[if_neg (by decide)] at hv
    cases hv;exact ZEs ⟨trivial,rfl,hO.ext hE1,he0.trans hE1⟩
 | some p =>
  obtain⟨w,t⟩:=p;have hwl:=hcl _ hq;simp only at hwl ⊢;refine zy ?_;refine ZAb rfl rfl rfl rfl rfl Bod.h rfl rfl (ZKz (by omega) hE hgl) ?_;rintro _ h1 ⟨hE1,⟨n,hn,rfl⟩|⟨hn,n,ti,c,rfl⟩⟩
  ·rw[hn]
   refine zy ?_;refine ZAB rfl rfl rfl rfl (ZJq Tryz.underlying165 rfl) ?_;refine zy ?_;refine ZBL rfl rfl rfl rfl rfl Bod.h rfl rfl (ZDD true h1) (fun v h2 hv=>?_) (fun v h2 hv=>?_);rotate_left
   ·rw[if_pos rfl] at hv;cases hv
   rw[if_pos rfl] at hv;cases hv;refine zy ?_;refine ZA3 hw0 (he0.trans hE1) rfl Tsz.h rfl rfl (hO.ext hE1) rfl rfl rfl fun h3 hW3 hO3 hE3=>?_;refine zy ?_;exact ZAD (ZD8 (vs:=[i64 n]) rfl ⟨n,t,rfl,rfl,hO3,hE3⟩)
  ·have hno:(match Lib.atoiAll w with|.ok n=>some (n,t)|_=>none)=none:=by
    cases hq2:Lib.atoiAll w with
    | ok z=>exact absurd hq2 (hn z)
    | _=>rfl
   refine zy ?_;refine ZAB rfl rfl rfl rfl (ZJz Tryz.underlying165 rfl) ?_;refine zy ?_;refine ZBL rfl rfl rfl rfl rfl Bod.h rfl rfl (ZDD false h1) (fun v h2 hv=>?_) (fun v h2 hv=>?_)
   ·rw[if_neg (by decide)] at hv;cases hv
   ·rw[if_neg (by decide)] at hv
    cases hv;exact ZEs ⟨hno,rfl,hO.ext hE1,he0.trans hE1⟩
theorem ZGA (l:Byt)(c:UInt8)(h:Heap):Sv Tryz.prog 163 [str l,byt c] h (RetP fun v h'=>v=i64 (Lib.indexByte l c)/\h'=h):=by
 refine ZAJ Tryz.func163 rfl (by rw[Tryz.ntmps163];rfl) ?_;show Wc Tryz.prog ⟨163,8,none⟩ _ _ _ _ _;refine zy ?_;refine ZAP rfl rfl rfl rfl rfl Bod.h rfl rfl (ZHf l c h) ?_;refine zy ?_;exact ZAD (ZAE rfl ⟨rfl,rfl⟩)
theorem ZJS (s:Byt)(hs:s≠[]):∃x r,ZAf s=x::ZAf r/\s=x++r/\((Lib.indexByte s 10 = -1/\x=s/\r=[])\/∃k:Nat,Lib.indexByte s 10=k/\k<s.length/\x=s.take (k+1)/\r=s.drop (k+1)):=by
 rcases ZE9 10 s with ⟨e1,-,e3⟩|⟨k,e1,hk,-,e4,e5⟩
 ·exact⟨s,[],by rw[ZF2 e3 hs];rfl,by simp,.inl ⟨e1,rfl,rfl⟩⟩
 ·have h10:s[k]?=some 10:=by
   have h1:=congrArg (fun l=>l[k]?) e5;rw[show s[k]?=_ from h1,List.getElem?_append_right (by rw[List.length_take];omega),List.length_take,show k-min k s.length=0 by omega]
   rfl
  have ht:s.take (k+1)=s.take k++[10]:=by rw[List.take_add_one,h10];rfl
  refine⟨s.take (k+1),s.drop (k+1),?_,(List.take_append_drop _ _).symm,.inr ⟨k,e1,hk,rfl,rfl⟩⟩;rw[ht]
  conv=>lhs;rw[e5]
  exact ZD7 _ e4
def ZHm (b:Nat)(s:Byt)(pre:List Byt):It:=ceI b [str (s.drop pre.flatten.length)] 9 false
set_option maxHeartbeats 2000000 in
theorem ZMP {h0:Heap}{b:Nat}{s:Byt}(hw0:WF h0)(hs:s.length<=1000000):ZN3 Tryz.prog 162 [.pointer (some ⟨b,0,none⟩)] h0 (ZHm b s) (ZAf s) str:=by
 intro l hL J Pn R0 hJ0 hJ1 hJ2 hy hO0;refine ZEz Tryz.func162 rfl (by rw[Tryz.ntmps162];rfl) ?_
 show Wc Tryz.prog ⟨162,25,none⟩ _ _ _ _ _
 refine zy ?_;refine ZBC (fun (st:List Byt×Byt×List It) m ds h'=>ds=[]/\ZAf s=st.1++ZAf st.2.1/\s.drop st.1.flatten.length=st.2.1/\J st.1 h' st.2.2/\Own h0 h' (ZHm b s st.1::st.2.2)/\AllK m [(0,.func (.yield l) #[] #[]),(1,.pointer (some ⟨b,0,none⟩))]) (fun st=>st.2.1.length) ([],s,R0) ?_ ?_
 ·exact⟨rfl,rfl,rfl,hJ0,hO0,rfl,rfl,trivial⟩
 rintro⟨pre,r,R⟩ m ds h1 ⟨rfl,hsp,hdr,hJ,hO,hall⟩;simp only at hsp hdr hJ hO;refine Wc.le ?_ (Le.kn hall);clear hall;have hrl:r.length<=1000000:=by rw[<-hdr,List.length_drop];omega
 have hg:h1.get b=some (.cells [str r] 9 false):=by
  have:h1.get b=some (.cells [str (s.drop pre.flatten.length)] 9 false):=hO.p1;rw[hdr] at this;exact this
 have hE1:=(hJ1 _ _ _ hJ).1;refine zy ?_;refine ZAl rfl rfl rfl rfl (ZB1 rfl rfl) (fun hgt=>?_) (fun hgt=>?_);rotate_left
 ·have:r=[]:=List.eq_nil_of_length_eq_zero (by omega)
  subst this;rw[show ZAf []=[] from rfl,List.append_nil] at hsp;refine zy ?_;refine ZD8 rfl ⟨R,?_,?_⟩
  ·rw[hsp];exact hJ
  ·rw[hsp];exact hO
 have hne:r≠[]:=fun e=>by rw[e] at hgt;exact absurd hgt (by decide)
 obtain⟨x,t,e1,e2,e3⟩:=ZJS r hne;rw[e1] at hsp;have hxl:0<x.length:=by
  rcases e3 with ⟨-,rfl,-⟩|⟨k,-,hk,rfl,-⟩
  ·omega
  ·rw[List.length_take];omega
 have hdr2:s.drop (pre++[x]).flatten.length=t:=by
  rw[List.flatten_append,List.length_append,<-List.drop_drop,hdr];simp only[List.flatten_cons,List.flatten_nil,List.append_nil];rw[e2,List.drop_left]
 have hO1:Own h0 h1 (ceI b [str r] 9 false::R):=by
  unfold ZHm at hO;rw[hdr] at hO;exact hO
 have hbox:ZHm b s (pre++[x])=ceI b [str t] 9 false:=by unfold ZHm;rw[hdr2]
 refine zy ?_;refine ZAP rfl rfl rfl rfl rfl Bod.h rfl rfl (ZGA r 10 h1) ?_;refine zy ?_;refine ZAB rfl rfl rfl rfl (ZFa rfl rfl) ?_;refine ZFs ?_
 show Wc _ _ _ _ _ _ _
 refine Wc.mono (Q:=fun z m' ds' h'=>z=.normal/\ds'=[]/\Own h0 h' (ceI b [str t] 9 false::R)/\Ext h0 h'/\AllK m' [(0,.func (.yield l) #[] #[]),(1,.pointer (some ⟨b,0,none⟩)),(3,str x)]) ?_ ?_
 ·rcases e3 with ⟨q1,rfl,rfl⟩|⟨k,q1,hk,rfl,rfl⟩
  ·rw[q1,decide_eq_false (show ¬((0:Int) <= -1) by decide)]
   refine zy ?_;refine ZA3 hw0 hE1 rfl Tsz.h rfl rfl hO1 rfl rfl rfl fun h2 hW2 hO2 hE2=>?_;refine zy ?_;exact⟨rfl,rfl,hO2,hE2,rfl,rfl,rfl,trivial⟩
  ·rw[q1,decide_eq_true (show (0:Int)<=(k:Nat) by omega)]
   refine zy ?_;refine ZBK hmix [0,0,2,7,0,0,32,112,15,511] [0,1,2,3,4,5,6,7] (some 8) [([],(some 9)),([],none)] (by kernel_rfl) (by kernel_rfl) ?_;refine z_l ?_;refine z_m ?_;refine ZAF rfl rfl rfl rfl rfl (fun _=>ZIM rfl rfl (by omega) (by omega)) ?_;refine ZAF rfl rfl rfl rfl rfl (fun _=>ZEl (k:=k+1) Und.h rfl rfl (by omega) (by omega)) ?_;refine z_l ?_;refine z_m ?_;refine ZAF rfl rfl rfl rfl rfl (fun _=>ZIM rfl rfl (by omega) (by omega)) ?_;refine ZAF rfl rfl rfl rfl rfl (fun _=>ZBi (k:=k+1) Und.h rfl rfl (by omega) (by omega)) ?_;refine ZAr [0,1,2,3] (by kernel_rfl) rfl (ZAL rfl) rfl nb rfl (ZDf rfl rfl (ZAu rfl) ?_)
   refine ZAr [0,1,2,3,4,5,6,7,8] (by kernel_rfl) rfl (by refine ZAN (i:=7) rfl rfl rfl rfl rfl (fun _=>ZBi (k:=k+1) Und.h rfl rfl (by omega) (by omega)) rfl ?_;refine ZAN (i:=6) rfl rfl rfl rfl rfl (fun _=>ZIM rfl rfl (by omega) (by omega)) rfl ?_;refine t_m 5 ?_;refine t_l 4 ?_;exact ZAL rfl) rfl nb rfl (ZKs rfl hw0 hE1 rfl Tsz.h rfl rfl hO1 rfl rfl rfl (fun h2 hO2 hE2=>?_));refine ZB8 (ZAL rfl) nb' ?_;refine zy ?_;exact⟨rfl,rfl,hO2,hE2,rfl,rfl,rfl,trivial⟩
 rintro _ m _ h2 ⟨rfl,rfl,hO2,hE2,hall⟩
 show Wc _ _ _ _ _ _ _
 refine Wc.le ?_ (Le.kn hall);clear hall;have hO2':Own h0 h2 (ZHm b s (pre++[x])::R):=by rw[hbox];exact hO2
 have hJ2':=hJ2 pre h1 h2 R (pre++[x]) hJ hO2' hE2;have hy2:=hy pre x (ZAf t) h2 R hsp hJ2' hO2';refine zy ?_;refine ZKL rfl rfl rfl rfl rfl rfl rfl hy2 (fun v h3 hv=>?_) (fun v h3 hv=>ZEs hv);obtain⟨rfl,R',hJ3,hO3⟩:=hv;refine zy ?_
 refine⟨(pre++[x],t,R'),(by
  show t.length<r.length
  have:=congrArg List.length e2;rw[List.length_append] at this;omega),rfl,by simp only[List.append_assoc,List.singleton_append];exact hsp,hdr2,hJ3,hO3,rfl,rfl,trivial⟩
end Go.Dw
namespace Go.Dw
open Go Go.Dx Go.Proofs
set_option maxRecDepth 100000
theorem ZGS {s:Byt}{n:Int}{t:Byt}(h:numS s=some (n,t)):I64 n/\t.length<=s.length:=by
 unfold numS at h
 rcases ZE9 32 s with ⟨-,e2,-⟩|⟨k,-,hk,e2,-,-⟩
 ·rw[e2] at h;cases h
 ·rw[e2] at h
  simp only at h
  split at h
  ·rename_i z hz
   cases h;have:=Lib.atoiAll_bounds hz;exact⟨⟨this.1,by omega⟩,by rw[List.length_drop];omega⟩
  ·cases h
theorem ZMA (s:Byt):(ZD9 s).length<=s.length:=by
 unfold ZD9
 split
 ·rw[List.length_dropLast];omega
 ·exact Nat.le_refl _
theorem ZHb:∀s:Byt,(ZAf s).length<=s.length/\∀x∈ZAf s,x.length<=s.length
 | []=>⟨Nat.le_refl _,fun _ h=>nomatch h⟩
 | c::s=>by
  obtain⟨h1,h2⟩:=ZHb s;rw[ZAf]
  split
  ·refine⟨by simp only[List.length_cons];omega,fun x hx=>?_⟩
   rcases List.mem_cons.1 hx with rfl|hx
   ·simp
   ·have:=h2 x hx
    simp only[List.length_cons];omega
  ·split
   ·exact⟨by simp,fun x hx=>by rw[List.mem_singleton.1 hx];simp⟩
   ·rename_i y ys e
    rw[e] at h1 h2;refine⟨by simp only[List.length_cons] at h1 ⊢;omega,fun x hx=>?_⟩
    rcases List.mem_cons.1 hx with rfl|hx
    ·have:=h2 y List.mem_cons_self
     simp only[List.length_cons];omega
    ·have:=h2 x (List.mem_cons_of_mem _ hx)
     simp only[List.length_cons];omega
theorem ZFJ {P:Program}{fr:Fr}{a b:Code}{m:Mem}{ds:List ADef}{h:Heap}{Q:CQ}(hw:Wf P fr a m ds h (fun z m1 ds1 h1=>match z with|.normal=>Wf P fr b m1 ds1 h1 Q|z=>Q z m1 ds1 h1)):Wf P fr (.seq a b) m ds h Q :=
 ZOB hw (fun _ _ _ h=>h) fun z m1 ds1 h1 hz hq=>by
  cases z with
  | normal=>exact absurd rfl hz
  | exit id=>exact hq
  | goto l=>exact hq
  | ret=>exact hq
  | pan v=>exact hq
theorem ZHY {h:Heap}(s:Byt):Sv Tryz.prog 121 [str s] h (RetP fun v h'=>∃b,v=.func (.func 162) #[] #[.pointer (some ⟨b,0,none⟩)]/\Own h h' [ceI b [str s] 9 false]/\Ext h h'):=by
 refine ZFF fun hw=>?_;refine ZAJ Tryz.func121 rfl (by rw[Tryz.ntmps121];rfl) ?_;show Wc Tryz.prog ⟨121,4,none⟩ _ _ _ _ _;refine zy ?_;refine ZMi rfl rfl rfl fun h1 hE1 hW1 hg1 hn1=>?_;have hO1:=(Own.nil h h).newCe hw (Nat.le_refl _) hE1 hg1 (Nat.le_refl _);refine zy ?_;exact ZAD (ZAE rfl ⟨_,rfl,hO1,hE1⟩)
theorem ZHi {fn:Func}{m:Mem}{h:Heap}{R:VS->Prop}{p q:Nat}{vp vq:Value}{rc:RC}
  (hp:h.get p=some (.cells [vp] 58 false)) (hq:h.get q=some (.cells [vq] 32 false)) (hpq:p≠q)
  (hn:rc=.none->LvR Tryz.prog fn m [] .none h R) (hs:rc=.some ZJt->∀h1,(∀b,b≠p->b≠q->h1.get b=h.get b)->h1.nx=h.nx->h1.gl=h.gl->h1.get p=some (.cells [.slice none 0 0] 58 false)->h1.get q=some (.cells [i64 6] 32 false)->LvR Tryz.prog fn m [] .none h1 R)
  (hrc:rc=.none\/rc=.some ZJt):LvR Tryz.prog fn m [.fn 120 [] [.pointer (some ⟨p,0,none⟩),.pointer (some ⟨q,0,none⟩)]] rc h R:=by
 refine ZN0 Tryz.func120 rfl Bod.h (by rw[Tryz.ntmps120];rfl) ?_
 show Wz Tryz.prog ⟨120,8,none⟩ _ _ _ _ _
 rcases hrc with rfl|rfl
 ·refine ZI7 ?_
  refine ZDb ?_;refine ZLB rfl rfl rfl rfl ?_;refine ZFt rfl rfl (ZAu rfl) ?_;refine ZGU ?_;refine ZI7 ?_;refine ZDb ?_;refine ZFt rfl rfl (ZE1 rfl) ?_;refine ZFt rfl rfl (ZK2 Tryz.underlying20 rfl) ?_;refine ZGU ?_;refine ZLu rfl ?_;refine ZLN rfl (ZH7 ⟨rfl,.inl rfl,rfl,hn rfl⟩)
 ·refine ZI7 ?_
  refine ZDb ?_;refine ZLB rfl rfl rfl rfl ?_;refine ZFt rfl rfl (ZAu rfl) ?_;refine ZGU ?_;refine ZI7 ?_;refine ZDb ?_;refine ZFt rfl rfl (ZE1 rfl) ?_;refine ZFt rfl rfl (ZJ7 Tryz.underlying20 rfl rfl) ?_;refine ZGU ?_;refine ZLn rfl ?_;refine ZLN rfl ?_;refine ZBK hmix [0,1,0,7] [0,1] (some 2) [([],(some 3)),([],none)] (by kernel_rfl) (by kernel_rfl) ?_;refine z_m ?_;refine z_t ?_;refine ZAr [] (by kernel_rfl) rfl (ZAL rfl) rfl nb rfl (ZGo rfl rfl Tsz.h rfl rfl hp rfl rfl rfl (fun h1 hU1=>?_));have hq1:=hU1.get (Ne.symm hpq) hq;refine ZAr [0,1,2] (by kernel_rfl) rfl (by refine t_t 1 ?_;refine t_m 0 ?_;exact ZAL rfl) rfl nb rfl (ZGo rfl rfl Tsz.h rfl rfl hq1 rfl rfl rfl (fun h2 hU2=>?_))
  refine ZB8 (ZAL rfl) nb' ?_;refine⟨rfl,.inl rfl,rfl,hs rfl h2 (fun b b1 b2=>by rw[hU2.other b b2,hU1.other b b1]) (by rw[hU2.nx,hU1.nx]) (hU2.gl.trans hU1.gl) (hU2.get hpq hU1.at') hU2.at'⟩
def ZL7 (s:Byt)(v:Value)(h':Heap):Prop:=∃a c,v=.tuple ⟨[.slice a (ZBI s).1.length c,i64 (ZBI s).2]⟩/\ZAU 3 TtlR h' a (ZBI s).1
abbrev rdX (h:Heap)(b2 b3:Nat)(st:List Ttl×Value):List It:=[slI h st.2 75 3 (st.1.flatMap ttVs) st.1.length,ceI b2 [st.2] 58 false,ceI b3 [i64 0] 32 false]
theorem ZGk {fn:Func}{m:Mem}{h0 h:Heap}{s:Byt}{r b2 b3:Nat}{st:List Ttl×Value}{x3:Value}(hfr:fn.results=#[.cell 2 58,.cell 3 32])(hm2:m 2=some (.pointer (some ⟨b2,0,none⟩)))(hm3:m 3=some (.pointer (some ⟨b3,0,none⟩)))(hw0:WF h0)
  (hO:Own h0 h [loI r .defd,slI h0 st.2 75 3 (st.1.flatMap ttVs) st.1.length,ceI b2 [st.2] 58 false,ceI b3 [x3] 32 false]) (hE:Ext h0 h) (hA:ZBI s=([],6)) :
  LvR Tryz.prog fn m [.coll r,.fn 120 [] [.pointer (some ⟨b2,0,none⟩),.pointer (some ⟨b3,0,none⟩)]] (.some ZJt) h (RetP fun v h'=>ZL7 s v h'/\Ext h0 h'):=by
 have hne:b2≠b3:=fun e=>(List.pairwise_cons.1 (List.pairwise_cons.1 (List.pairwise_cons.1 hO.ap).2).2).1 _ List.mem_cons_self b2 rfl e;have hd:=Own.del (rs:=[r]) (I:=[slI h0 st.2 75 3 (st.1.flatMap ttVs) st.1.length,ceI b2 [st.2] 58 false,ceI b3 [x3] 32 false]) hO;have hrl:=hO.lo _ List.mem_cons_self r rfl;refine ZJO hO.p1 (ZHi hd.p2 hd.p3 hne (fun e=>nomatch e) (fun _ h1 k1 k2 k3 k4 k5=>?_) (.inr rfl));refine ZD8 (vs:=[.slice none 0 0,i64 6]) (by rw[hfr];exact ZCD hm2 (ZBg OneC.h (ZAM k4 rfl)) (ZCD hm3 (ZBg OneC.h (ZAM k5 rfl)) rfl)) ⟨⟨none,0,by rw[hA];rfl,by rw[hA];exact fun i hi=>absurd hi (Nat.not_lt_zero _)⟩,?_⟩
 refine⟨fun b o hg=>?_,?_,k3.trans hE.2.2⟩
 ·have hb:=hw0 b o hg
  have l2:=hO.lo _ (List.mem_cons_of_mem _ (List.mem_cons_of_mem _ List.mem_cons_self)) b2 rfl;have l3:=hO.lo _ (List.mem_cons_of_mem _ (List.mem_cons_of_mem _ (List.mem_cons_of_mem _ List.mem_cons_self))) b3 rfl;rw[k1 b (by omega) (by omega)]
  show (h.del r).get b=_
  rw[Heap.get_del_other (by omega)];exact hE.1 b o hg
 ·rw[k2];exact hE.2.1
set_option maxHeartbeats 8000000 in
theorem ZE2 {s:Byt}{h:Heap}(hs:Len s)(hLib:LibAt h)(hPow:PowAt h)(hErr:ErrAt h):Sv Tryz.prog 53 [str s] h (RetP fun v h'=>ZL7 s v h'/\Ext h h'):=by
 refine ZFF fun hw=>?_;refine ZLh Tryz.func53 rfl (by rw[Tryz.ntmps53];rfl) ?_
 show Wf Tryz.prog ⟨53,49,none⟩ _ _ _ _ _
 refine ZFJ (ZKC rfl ?_);refine zy ?_;refine ZDZ rfl rfl Zr.h fun h1 hE1 hW1 hg1 hn1=>?_;have hO1:=(Own.nil h h).newCe hw (Nat.le_refl _) hE1 hg1 (Nat.le_refl _);refine ZDZ rfl rfl Zr.h fun h2 hE12 hW2 hg2 hn2=>?_;have hO2:=hO1.newCe hW1 hE1.2.1 hE12 hg2 (Nat.le_refl _);have hE2:=hE1.trans hE12;have hlo2:h.nx<=h.nx:=Nat.le_refl _;generalize hb2:h.nx=b2 at hO1 hO2 hg1 ⊢;generalize h1.nx=b3 at hO2 hg2 ⊢;clear hO1 hg1 hg2 hn1 hn2 hW1 hE1 hE12;refine ZFs ?_
 show Wf _ _ _ _ _ _ _
 refine ZFJ (ZKC rfl ?_);refine zy ?_
 by_cases h8:8000<s.length
 ·have hA:ZBI s=([],3):=if_pos h8
  refine ZAB rfl rfl rfl rfl (A_tt (by omega) (ZB1 rfl rfl)) ?_;refine zy ?_;refine ZA3 hw hE2 rfl Tsz.h rfl rfl hO2.up2 rfl rfl rfl fun h3 hW3 hO3 hE3=>?_;refine ZA3 hw hE3 rfl Tsz.h rfl rfl hO3.up2 rfl rfl rfl fun h4 hW4 hO4 hE4=>?_;refine zy ?_;exact ZAD (ZD8 (vs:=[.slice none 0 0,i64 3]) (ZCD rfl (ZBg OneC.h (ZAM hO4.p2 rfl)) (ZCD rfl (ZBg OneC.h (ZAM hO4.p1 rfl)) rfl)) ⟨⟨none,0,by rw[hA];rfl,by rw[hA];exact fun i hi=>absurd hi (Nat.not_lt_zero _)⟩,hE4⟩)
 have hsl:s.length<=8000:=by omega
 have hrA:ZBI s=match ZA9 (ZAf s) with|some l=>if ZAH l=0/\ZAV 0 l=s then (l,0) else ([],6)|none=>([],6):=if_neg h8
 obtain⟨hLl,hLx⟩:=ZHb s;refine ZAB rfl rfl rfl rfl (A_ff (by omega) (ZB1 rfl rfl)) ?_;refine zy ?_
 show Wf _ _ _ _ _ _ _
 refine ZFJ (ZKC rfl ?_);refine zy ?_;refine ZLt rfl rfl rfl rfl rfl Bod.h ?_;refine ZFs ?_
 show Wf _ _ _ _ _ _ _
 refine ZFJ ?_;refine ZFJ (ZKC rfl ?_);refine zy ?_;refine ZAb rfl rfl rfl rfl rfl Bod.h rfl rfl (ZHY s) ?_;rintro _ h3 ⟨bs,rfl,hOs,hE23⟩;have hO3:=hO2.join hW2 hE2.2.1 hE23 hOs;have hE3:=hE2.trans hE23;clear hOs hE23 hO2 hE2 hW2;refine ZFs ?_
 show Wf _ _ _ _ _ _ _
 have hO3':Own h h3 (ZHm bs s []::rdX h b2 b3 ([],.slice none 0 0)):=((hO3.perm (.cons _ (List.Perm.swap _ _ _))).nilSl _ _).up2;clear hO3;refine ZML ?_;refine ZLR (X:=rdX h b2 b3) (ok:=fun pre st=>ZA9 pre=some st.1/\st.1.length=pre.length/\∀x∈st.1,x.Fit) (okP:=fun v=>v=ZJt/\ZA9 (ZAf s)=none) (L:=ZAf s) (enc:=str) (q:=4) (s0:=([],.slice none 0 0)) (box:=ZHm bs s) rfl rfl Bod.h rfl ⟨_,Tryz.func53⟩ hw hE3 hO3' ⟨rfl,rfl,fun _ h=>nomatch h⟩ (ZMP hw (by omega)) ?_ ?_ ?_ ?_
 ·intro l x h'
  refine zy ?_;exact⟨rfl,rfl,rfl,rfl⟩
 ·rintro l pre x post ⟨ls,v⟩ h4 R hsp ⟨hp1,hp2,hp3⟩ hO4 hE4
  simp only at hp1 hp2 hp3
  show Wc Tryz.prog ⟨53,49,some l⟩ _ _ _ _ _
  have hxm:x∈ZAf s:=by rw[hsp];simp
  have hxl:=hLx x hxm;have hpl:pre.length<=8000:=by
   have:=congrArg List.length hsp;rw[List.length_append] at this;omega
  have hnone:ZBP x=none->ZA9 (ZAf s)=none:=fun hx=>by
   rw[hsp,<-List.singleton_append,<-List.append_assoc];exact ZHy (by rw[ZDG,hp1,hx];rfl)
  refine ZOf fun hw4=>?_;refine zy ?_;refine ZMi rfl rfl rfl fun h5 hE45 hW5 hg5 hn5=>?_;have hO5:=hO4.newCe hw4 hE4.2.1 hE45 hg5 (Nat.le_refl _);have hE5:=hE4.trans hE45;generalize h4.nx=br at hO5 hg5 ⊢;clear hO4 hE4 hE45 hg5 hn5 hw4;refine zy ?_;refine ZBL rfl rfl rfl rfl rfl Bod.h rfl rfl (ZEe hw hE5 hO5 (by omega) (hErr.ext hE5) (hLib.ext hE5).gl) (fun v1 h6 hv=>?_) (fun v1 h6 hv=>?_);rotate_left
  ·obtain⟨e1,rfl,hO6,hE6⟩:=hv
   exact .inr ⟨_,rfl,rfl,⟨rfl,hnone (by unfold ZBP;rw[e1];rfl)⟩,(ls,v),hO6.tail,hE6⟩
  obtain⟨n1,t1,e1,rfl,hO6,hE6⟩:=hv;obtain⟨-,l1⟩:=ZGS e1;clear hO5;refine zy ?_;refine ZBL rfl rfl rfl rfl rfl Bod.h rfl rfl (ZEe hw hE6 hO6 (by omega) (hErr.ext hE6) (hLib.ext hE6).gl) (fun v2 h7 hv=>?_) (fun v2 h7 hv=>?_);rotate_left
  ·obtain⟨e2,rfl,hO7,hE7⟩:=hv
   exact .inr ⟨_,rfl,rfl,⟨rfl,hnone (by unfold ZBP;rw[e1];simp only[Option.bind_some];rw[e2];rfl)⟩,(ls,v),hO7.tail,hE7⟩
  obtain⟨n2,t2,e2,rfl,hO7,hE7⟩:=hv;obtain⟨i2,l2⟩:=ZGS e2;clear hO6;refine zy ?_;refine ZBL rfl rfl rfl rfl rfl Bod.h rfl rfl (ZEe hw hE7 hO7 (by omega) (hErr.ext hE7) (hLib.ext hE7).gl) (fun v3 h8' hv=>?_) (fun v3 h8' hv=>?_);rotate_left
  ·obtain⟨e3,rfl,hO8,hE8⟩:=hv
   exact .inr ⟨_,rfl,rfl,⟨rfl,hnone (by unfold ZBP;rw[e1];simp only[Option.bind_some];rw[e2];simp only[Option.bind_some];rw[e3];rfl)⟩,(ls,v),hO8.tail,hE8⟩
  obtain⟨n3,t3,e3,rfl,hO8,hE8⟩:=hv;obtain⟨i3,l3⟩:=ZGS e3;have hpx:ZBP x=some ⟨n2,n3,ZD9 t3⟩:=by
   unfold ZBP;rw[e1];simp only[Option.bind_some];rw[e2];simp only[Option.bind_some];rw[e3];rfl
  have htl:=ZMA t3;clear hO7;refine ZDI fun hw8=>?_;refine zy ?_;refine ZDV rfl rfl Zr.h Tsz.h rfl (fun _=>rfl) rfl rfl rfl fun h9 hE89 hW9 hg9 hn9=>?_;have hO9:=hO8.newCe hw8 hE8.2.1 hE89 hg9 (Nat.le_refl _);have hE9:=hE8.trans hE89;generalize h8'.nx=b6 at hO9 hg9 ⊢;clear hO8 hg9 hn9;have hc9:ZAX h9 br 0=some (str t3):=ZAM hO9.p2 rfl;refine zy ?_;refine ZAP rfl rfl rfl rfl rfl Bod.h rfl rfl (ZJY t3 h9 (by omega)) ?_;refine zy ?_;refine ZA3 hw hE9 rfl Tsz.h rfl rfl hO9 rfl rfl rfl fun h10 hW10 hO10 hE10=>?_;have hc10:ZAX h10 b2 0=some v:=ZAM hO10.p4 rfl;have hr10:ZBN h10 b6 0 3=some [i64 n2,i64 n3,str (ZD9 t3)]:=ZAx hO10.p1 rfl
  refine zy ?_;refine ZL4 (cs:=[i64 n2,i64 n3,str (ZD9 t3)]) rfl rfl Und.h Tsz.h Zr.h rfl rfl rfl rfl rfl fun h11 hE1011 hW11 hg11 hn11=>?_;have hO11:=(hO10.pick 2 rfl).ext hE1011;refine zy ?_;refine ZCl (k:=1) (n:=ls.length) (l:=[i64 n2,i64 n3,str (ZD9 t3)]) hw (hE10.trans hE1011) rfl rfl rfl rfl rfl Und.h inferInstance rfl rfl hO11 (ZCk Und.h (by intro k;simp) (ZAx hg11 rfl)) rfl rfl (by omega) (by omega) fun v' h12 hW12 hO12 hE12=>?_;have hF12:ZAG h h12 v' 75 3 (ls.flatMap ttVs++[i64 n2,i64 n3,str (ZD9 t3)]) (ls.length+1):=hO12.p1;obtain⟨av',rfl,-,-⟩:=hF12.is;clear hF12;refine zy ?_;refine ZA3 hw hE12 rfl Tsz.h rfl rfl hO12.up4 rfl rfl rfl fun h13 hW13 hO13 hE13=>?_
  refine zy ?_;refine .inl ⟨rfl,(ls++[⟨n2,n3,ZD9 t3⟩],.slice av' (ls.length+1) (ls.length+1)),⟨?_,?_,?_⟩,?_,hE13⟩
  ·rw[ZDG,hp1,hpx];rfl
  ·simp only[List.length_append,hp2,List.length_singleton]
  ·intro y hy
   rcases List.mem_append.1 hy with hy|hy
   ·exact hp3 y hy
   ·rw[List.mem_singleton.1 hy]
    exact⟨i2,i3,show _<_ by simp only;omega⟩
  ·simp only[rdX,List.flatMap_append,List.length_append,List.length_singleton,List.flatMap_singleton]
   exact hO13.up2.sub (.cons_cons _ (.cons_cons _ (.cons _ (.cons _ (List.Sublist.refl _)))))
 ·rintro⟨ls,v⟩ h5 ⟨hp,hlen,hfit⟩ hO5 hE5
  simp only at hp hlen hfit;rw[hp] at hrA;simp only at hrA;refine⟨.inl rfl,?_⟩
  show Wf _ _ _ _ _ _ _
  refine ZKC rfl ?_;generalize hr:h3.nx=r at hO5 ⊢;have hO6:Own h h5 (loI r .defd::rdX h b2 b3 (ls,v)):=hO5.sub (.cons_cons _ (.cons _ (List.Sublist.refl _)));obtain⟨av,cv,rfl,hrows⟩:=ZDd (show ZAG h h5 v 75 3 (ls.flatMap ttVs) ls.length from hO6.p2);have hc2:ZAX h5 b2 0=some (.slice av ls.length cv):=ZAM hO6.p3 rfl;refine zy ?_;refine ZBY rfl rfl rfl rfl rfl Bod.h rfl rfl (ZCr hrows hfit (show _<_ by omega) (hLib.ext hE5) (hPow.ext hE5)) fun h6 hE56=>?_;have hO7:=hO6.ext hE56;have hE6:=hE5.trans hE56;refine zy ?_;refine ZA3 hw hE6 rfl Tsz.h rfl rfl hO7.up4 rfl rfl rfl fun h7 hW7 hO8 hE7=>?_;have hc3:ZAX h7 b3 0=some (i64 (ZAH ls)):=ZAM hO8.p1 rfl
  have hO8':Own h h7 [loI r .defd,slI h (.slice av ls.length cv) 75 3 (ls.flatMap ttVs) ls.length,ceI b2 [.slice av ls.length cv] 58 false,ceI b3 [i64 (ZAH ls)] 32 false]:=hO8.dn4;clear hO8 hO7 hO6 hO5;refine zy ?_
  by_cases he:ZAH ls=0
  rotate_left
  ·refine ZAB rfl rfl rfl rfl (A_ff he (ZCL rfl rfl)) ?_
   refine zy ?_;refine ZBL rfl rfl rfl rfl rfl Bod.h rfl rfl (ZDD false h7) (fun v h8 hv=>?_) (fun v h8 hv=>?_)
   ·rw[if_neg (by decide)] at hv;cases hv
   rw[if_neg (by decide)] at hv;cases hv;exact ZGk (st:=(ls,.slice av ls.length cv)) rfl rfl rfl hw hO8' hE7 (by rw[hrA,if_neg fun q=>he q.1])
  refine ZAB rfl rfl rfl rfl (A_tt he (ZCL rfl rfl)) ?_;rw[if_pos he];refine zy ?_
  by_cases hq:ZAV 0 ls=s
  rotate_left
  ·refine ZAB rfl rfl rfl rfl (A_ff hq (ZCs rfl rfl)) ?_
   refine zy ?_;refine ZBL rfl rfl rfl rfl rfl Bod.h rfl rfl (ZDD false h7) (fun v h8 hv=>?_) (fun v h8 hv=>?_)
   ·rw[if_neg (by decide)] at hv;cases hv
   rw[if_neg (by decide)] at hv;cases hv;exact ZGk (st:=(ls,.slice av ls.length cv)) rfl rfl rfl hw hO8' hE7 (by rw[hrA,if_neg fun q=>hq q.2])
  rw[if_pos ⟨he,hq⟩] at hrA;refine ZAB rfl rfl rfl rfl (A_tt hq (ZCs rfl rfl)) ?_;refine zy ?_;refine ZBL rfl rfl rfl rfl rfl Bod.h rfl rfl (ZDD true h7) (fun v h8 hv=>?_) (fun v h8 hv=>?_);rotate_left
  ·rw[if_pos rfl] at hv;cases hv
  rw[if_pos rfl] at hv;cases hv;have hc2':ZAX h7 b2 0=some (.slice av ls.length cv):=ZAM hO8'.p3 rfl;refine zy ?_;refine ZA3 hw hE7 rfl Tsz.h rfl rfl hO8'.up3 rfl rfl rfl fun h9 hW9 hO9 hE9=>?_;refine ZA3 hw hE9 rfl Tsz.h rfl rfl hO9.up4 rfl rfl rfl fun h10 hW10 hO10 hE10=>?_
  have hO11:Own h h10 [loI r .defd,slI h (.slice av ls.length cv) 75 3 (ls.flatMap ttVs) ls.length,ceI b2 [.slice av ls.length cv] 58 false,ceI b3 [i64 0] 32 false]:=(hO10.up3.up4).perm (by
   exact (List.Perm.swap _ _ _).trans (.cons _ (.cons _ (List.Perm.swap _ _ _))))
  have hne:b2≠b3:=fun e=>(List.pairwise_cons.1 (List.pairwise_cons.1 (List.pairwise_cons.1 hO11.ap).2).2).1 _ List.mem_cons_self b2 rfl e;have hd:=Own.del (rs:=[r]) (I:=[slI h (.slice av ls.length cv) 75 3 (ls.flatMap ttVs) ls.length,ceI b2 [.slice av ls.length cv] 58 false,ceI b3 [i64 0] 32 false]) hO11;have hrl:=hO11.lo _ List.mem_cons_self r rfl;have hEd:=hE10.del hw hrl;obtain⟨a',c',hv',hrows'⟩:=ZDd (show ZAG h _ (.slice av ls.length cv) 75 3 (ls.flatMap ttVs) ls.length from hd.p1);simp only[Value.slice.injEq,true_and] at hv';obtain⟨rfl,rfl⟩:=hv';refine zy ?_;refine ZAD (ZJO hO11.p1 (ZHi hd.p2 hd.p3 hne (fun _=>?_) (fun e=>nomatch e) (.inl rfl)))
  exact ZD8 (vs:=[.slice av ls.length cv,i64 0]) (ZCD rfl (ZBg OneC.h (ZAM hd.p2 rfl)) (ZCD rfl (ZBg OneC.h (ZAM hd.p3 rfl)) rfl)) ⟨⟨av,cv,by rw[hrA];rfl,by rw[hrA];exact hrows'⟩,hEd⟩
 ·rintro v st h5 ⟨rfl,hn⟩ hO5 hE5
  exact⟨.inr (.inr ⟨_,rfl⟩),ZGk rfl rfl rfl hw hO5 hE5 (by rw[hrA,hn])⟩
section
variable {P:Program}{m:Mem}{h:Heap}{d:Option Tmp}{ty:TypeId}{pos:String}{af:Array Edge}{gu:Option (Nat×Bool)}
theorem ZL9 {t:TypeId}{x i j:Operand}{l:List UInt8}{ki kj:IntKind}{a b:Nat}(ht:P.underlying t=some .string)(hx:opk h m x=some (str l))(hi:opk h m i=some (.int ki (a:Nat)))(hj:opk h m j=some (.int kj (b:Nat)))(hab:a<=b)(hle:b<=l.length) :
  Aop P ⟨d,.slice t x (some i) (some j) none,ty,pos,af,gu⟩ m h (str ((l.take b).drop a)) h:=by
 intro e hs ι w ac hr he;have hvx:=(ZAA hr he (ZAC hs hx)).flat_eq rfl;have hvi:=(ZAA hr he (ZAC hs hi)).flat_eq rfl;have hvj:=(ZAA hr he (ZAC hs hj)).flat_eq rfl;refine OpS.here hr ?_ (VR.of_flat ι rfl);simp only[execOp,hvx,hvi,hvj,Option.map_some,Option.map_none];have hq:(Instr.slice t (.string ⟨⟨l⟩⟩) (some (.int ki (a:Nat))) (some (.int kj (b:Nat))) none).run P w=.ok (.string ⟨⟨(l.take b).drop a⟩⟩) w:=by
  rw[run_slice_string w t ⟨⟨l⟩⟩ ki kj _ _ ht (by omega) (by omega) (Int.ofNat_le.2 hle),bext,Int.toNat_natCast,Int.toNat_natCast,List.drop_take]
 simp only[Sem.run_bind,run_sliceAt_string _ _ _ _ _ _ ht,str,hq,Result.andThen_ok,Sem.run_pure]
theorem ZNp {t tz:TypeId}{x y:Operand}{k:IntKind}{a b n:Int}(hx:opk h m x=some (.int k a))(hy:opk h m y=some (.int k b))(hn:k.wrap (a-b)=n):Aop P ⟨d,.binOp .sub t x y tz,ty,pos,af,gu⟩ m h (.int k n) h :=
 ZBy hx hy rfl rfl rfl fun w=>by
  subst hn;simp only[Sem.run_bind,ZAZ,Result.andThen_ok];simp[binOp,Op.intArith]
end
theorem ZCM (c x:UInt8):∀{p:Byt}{L:List Byt}{q:Byt},ZAR c p=L++[q]->ZAR c (p++[x])=if x=c then L++[q,[]] else L++[q++[x]]
 | [],L,q,h=>by
  have h':[[]]=L++[q]:=h;obtain⟨rfl,rfl⟩:L=[]/\q=[]:=by
   cases L with
   | nil=>exact⟨rfl,((List.cons.inj h').1).symm⟩
   | cons a L=>cases L <;> cases h'
  rw[List.nil_append,ZAR]
  split
  ·rfl
  ·rfl
 | y::p,L,q,h=>by
  rw[List.cons_append,ZAR];rw[ZAR] at h
  by_cases hy:y=c
  ·rw[if_pos hy] at h ⊢
   cases L with
   | nil =>
    have:=(List.cons.inj h).2;exact absurd this (ZCg c p)
   | cons a L =>
    obtain⟨rfl,h2⟩:=List.cons.inj h;rw[ZCM c x h2]
    split <;> rfl
  ·rw[if_neg hy] at h ⊢
   cases hp:ZAR c p with
   | nil=>exact absurd hp (ZCg c p)
   | cons z zs =>
    rw[hp] at h;simp only at h
    cases L with
    | nil =>
     obtain⟨rfl,rfl⟩:=List.cons.inj h;rw[ZCM c x (L:=[]) (q:=z) (by rw[hp];rfl)]
     by_cases hx:x=c
     ·rw[if_pos hx,if_pos hx];rfl
     ·rw[if_neg hx,if_neg hx];rfl
    | cons a L =>
     obtain⟨rfl,h2⟩:=List.cons.inj h;rw[ZCM c x (L:=z::L) (q:=q) (by rw[hp,h2];rfl)]
     by_cases hx:x=c
     ·rw[if_pos hx,if_pos hx];rfl
     ·rw[if_neg hx,if_neg hx];rfl
theorem ZE7 (c:UInt8):∀s:Byt,(ZAR c s).length<=s.length+1/\∀x∈ZAR c s,x.length<=s.length
 | []=>⟨Nat.le_refl _,fun x h=>by rw[List.mem_singleton.1 h];exact Nat.le_refl _⟩
 | y::s=>by
  obtain⟨h1,h2⟩:=ZE7 c s;rw[ZAR]
  split
  ·refine⟨by simp only[List.length_cons];omega,fun x hx=>?_⟩
   rcases List.mem_cons.1 hx with rfl|hx
   ·simp
   ·have:=h2 x hx
    simp only[List.length_cons];omega
  ·split
   ·exact⟨by simp,fun x hx=>by rw[List.mem_singleton.1 hx];simp⟩
   ·rename_i z zs e
    rw[e] at h1 h2;refine⟨by simp only[List.length_cons] at h1 ⊢;omega,fun x hx=>?_⟩
    rcases List.mem_cons.1 hx with rfl|hx
    ·have:=h2 z List.mem_cons_self
     simp only[List.length_cons];omega
    ·have:=h2 x (List.mem_cons_of_mem _ hx)
     simp only[List.length_cons];omega
def ZNr (c:UInt8)(s:Byt)(h:Heap)(v:Value)(h':Heap):Prop:=ZAG h h' v 9 1 ((ZAR c s).map str) (ZAR c s).length/\Ext h h'
set_option maxHeartbeats 2000000 in
theorem ZF5 {s:Byt}{c:UInt8}{h:Heap}(hs:s.length<=1000000):Sv Tryz.prog 125 [str s,byt c] h (RetP (ZNr c s h)):=by
 refine ZFF fun hw=>?_;refine ZAJ Tryz.func125 rfl (by rw[Tryz.ntmps125];rfl) ?_;show Wc Tryz.prog ⟨125,34,none⟩ _ _ _ _ _;refine zy ?_;refine Wc.mono (Q:=fun x m' ds' h'=>x=.exit 0/\ds'=[]/\∃L f v,ZAR c s=L++[s.drop f]/\f<=s.length/\L.length<=s.length/\Own h h' [slI h v 9 1 (L.map str) L.length]/\Ext h h'/\AllK m' [(0,str s),(5,v),(6,i64 (f:Nat))]) (ZBC (fun (st:Nat×Nat×List Byt×Value) m ds h'=>ds=[]/\st.1<=s.length/\st.2.1<=st.1/\st.2.2.1.length<=st.1/\ZAR c (s.take st.1)=st.2.2.1++[(s.take st.1).drop st.2.1]/\Own h h' [slI h st.2.2.2 9 1 (st.2.2.1.map str) st.2.2.1.length]/\Ext h h'/\AllK m [(0,str s),(1,byt c),(5,st.2.2.2),(6,i64 (st.2.1:Nat)),(7,i64 (st.1:Nat))]) (fun st=>s.length-st.1) (0,0,[],.slice none 0 0) ?_ ?_) ?_
 ·exact⟨rfl,Nat.zero_le _,Nat.le_refl _,Nat.le_refl _,by simp[ZAR],(Own.nil h h).nilSl _ _,Ext.refl _,rfl,rfl,rfl,rfl,rfl,trivial⟩
 ·rintro⟨i,f,L,v⟩ m ds h1 ⟨rfl,hi,hfi,hLi,hsp,hO,hE,hall⟩
  simp only at hi hfi hLi hsp hO hall;refine Wc.le ?_ (Le.kn hall);clear hall;refine zy ?_;refine ZAl rfl rfl rfl rfl (ZCF rfl rfl) (fun hlt=>?_) (fun hlt=>?_);rotate_left
  ·have hi2:i=s.length:=by omega
   subst hi2;rw[List.take_length] at hsp;refine zy ?_;exact⟨rfl,rfl,L,f,v,hsp,hfi,hLi,hO,hE,rfl,rfl,rfl,trivial⟩
  have hi':i<s.length:=by omega
  have htk:s.take (i+1)=s.take i++[s[i]]:=List.take_succ_eq_append_getElem hi';have hsn:=ZCM c s[i] hsp;rw[<-htk] at hsn;have hlt':(s.take i).length=i:=by rw[List.length_take];omega
  refine zy ?_;refine ZAB rfl rfl rfl rfl (ZAi (k:=i) Und.h rfl rfl rfl hi') ?_;refine zy ?_
  by_cases hc:s[i]=c
  ·rw[if_pos hc] at hsn
   refine ZAB rfl rfl rfl rfl (A_tt (show ((s[i]).toNat:Int)=(c.toNat:Int) by rw[hc]) (ZCL rfl rfl)) ?_;refine zy ?_;refine ZAB rfl rfl rfl rfl (ZL9 (a:=f) (b:=i) Und.h rfl rfl rfl hfi hi) ?_;refine ZL4 rfl rfl Und.h Tsz.h Zr.h rfl rfl rfl rfl rfl fun h2 hE12 hW2 hg2 hn2=>?_;have hO2:=hO.ext hE12;refine ZCl (by':=16) (sz:=1) (k:=1) (n:=L.length) (l:=[str ((s.take i).drop f)]) hw (hE.trans hE12) rfl rfl rfl rfl rfl Und.h inferInstance rfl rfl hO2 (ZCk Und.h (by intro k;simp) (ZAx hg2 rfl)) rfl rfl (by omega) (by omega) fun v' h3 hW3 hO3 hE3=>?_;refine zy ?_;refine⟨(i+1,i+1,L++[(s.take i).drop f],v'),(by show s.length-(i+1)<s.length-i;omega),rfl,hi',Nat.le_refl _,(by simp only[List.length_append,List.length_singleton];omega),?_,?_,hE3,rfl,rfl,rfl,rfl,rfl,trivial⟩
   ·simp only
    rw[hsn,List.drop_eq_nil_of_le (show (s.take (i+1)).length<=i+1 by rw[List.length_take];omega)];simp
   ·simp only[List.map_append,List.length_append,List.length_singleton]
    exact hO3
  ·rw[if_neg hc] at hsn
   refine ZAB rfl rfl rfl rfl (A_ff (show ¬((s[i]).toNat:Int)=(c.toNat:Int) from fun e=>hc (UInt8.toNat.inj (by omega))) (ZCL rfl rfl)) ?_;refine zy ?_;refine⟨(i+1,f,L,v),(by show s.length-(i+1)<s.length-i;omega),rfl,hi',(by show f<=i+1;omega),(by show L.length<=i+1;omega),?_,hO,hE,rfl,rfl,rfl,rfl,rfl,trivial⟩;simp only;rw[hsn,htk,List.drop_append_of_le_length (by omega)]
 rintro _ m' ds' h1 ⟨rfl,rfl,L,f,v,hsp,hf,hL,hO,hE,hall⟩
 show Wc _ _ _ _ _ _ _
 refine Wc.le ?_ (Le.kn hall);clear hall;refine zy ?_;refine ZAB rfl rfl rfl rfl (ZBi (k:=f) Und.h rfl rfl rfl hf) ?_;refine ZL4 rfl rfl Und.h Tsz.h Zr.h rfl rfl rfl rfl rfl fun h2 hE12 hW2 hg2 hn2=>?_;have hO2:=hO.ext hE12;refine ZCl (by':=16) (sz:=1) (k:=1) (n:=L.length) (l:=[str (s.drop f)]) hw (hE.trans hE12) rfl rfl rfl rfl rfl Und.h inferInstance rfl rfl hO2 (ZCk Und.h (by intro k;simp) (ZAx hg2 rfl)) rfl rfl (by omega) (by omega) fun v' h3 hW3 hO3 hE3=>?_;refine zy ?_;refine ZAD (ZAE rfl ⟨?_,hE3⟩);rw[hsp];simp only[List.map_append,List.length_append,List.length_singleton];exact hO3.p1
theorem ZNA (n a b:Int)(h:Heap):Sv Tryz.prog 137 [i64 n,i64 a,i64 b] h (RetP fun v h'=>v=.bool (decide (a<=n/\n<=b))/\h'=h):=by
 refine ZAJ Tryz.func137 rfl (by rw[Tryz.ntmps137];rfl) ?_;show Wc Tryz.prog ⟨137,15,none⟩ _ _ _ _ _;refine zy ?_
 by_cases h1:a<=n
 ·refine ZAB rfl rfl rfl rfl (A_tt h1 (ZFa rfl rfl)) ?_
  refine zy ?_;refine ZAB rfl rfl rfl rfl (ZKn rfl rfl) ?_;refine zy ?_;exact ZAD (ZAE rfl ⟨by rw[decide_eq_decide.2 (show a<=n/\n<=b ↔ n<=b from⟨fun q=>q.2,fun q=>⟨h1,q⟩⟩)];rfl,rfl⟩)
 ·refine ZAB rfl rfl rfl rfl (A_ff h1 (ZFa rfl rfl)) ?_
  refine zy ?_;exact ZAD (ZAE rfl ⟨by rw[decide_eq_false fun q=>h1 q.1];rfl,rfl⟩)
set_option maxHeartbeats 2000000 in
theorem ZKD (s:Byt)(hs:s.length<=1000000)(h:Heap):Sv Tryz.prog 126 [str s] h (RetP fun v h'=>v=i64 (numD s)/\h'=h):=by
 refine ZAJ Tryz.func126 rfl (by rw[Tryz.ntmps126];rfl) ?_;show Wc Tryz.prog ⟨126,34,none⟩ _ _ _ _ _;refine zy ?_;refine ZAP rfl rfl rfl rfl rfl Bod.h rfl rfl (ZNA (s.length:Nat) 1 9 h) ?_
 by_cases h1:(1:Int)<=(s.length:Nat)/\((s.length:Nat):Int)<=9
 rotate_left
 ·have hn:numD s = -1:=if_neg fun q=>h1 ⟨by omega,by omega⟩
  rw[decide_eq_false h1,hn];refine zy ?_;exact ZAD (ZAE rfl ⟨rfl,rfl⟩)
 rw[decide_eq_true h1];refine zy ?_;refine ZBC (fun (i:Nat) m ds h'=>ds=[]/\h'=h/\i<=s.length/\(s.take i).all isD=true/\AllK m [(0,str s),(3,i64 (valG 0 (s.take i):Nat)),(4,i64 (i:Nat))]) (fun i=>s.length-i) 0 ⟨rfl,rfl,Nat.zero_le _,rfl,rfl,rfl,rfl,trivial⟩ ?_;rintro i m ds h' ⟨rfl,rfl,hi,hall2,hall⟩;refine Wc.le ?_ (Le.kn hall);clear hall;have hvl:=ZIB (s.take i) 0 hall2;have hpw:10 ^ (s.take i).length<=10 ^ 9:=Nat.pow_le_pow_right (by decide) (by rw[List.length_take];omega);refine zy ?_;refine ZAl rfl rfl rfl rfl (ZCF rfl rfl) (fun hlt=>?_) (fun hlt=>?_);rotate_left
 ·have hi2:i=s.length:=by omega
  subst hi2;rw[List.take_length] at *;have hn:numD s=(valG 0 s:Nat):=if_pos ⟨by omega,by omega,hall2⟩;rw[hn];refine zy ?_;exact ZAD (ZAE rfl ⟨rfl,rfl⟩)
 have hi':i<s.length:=by omega
 have htk:s.take (i+1)=s.take i++[s[i]]:=List.take_succ_eq_append_getElem hi';have hvs:=ZHP 0 (s.take i) s[i]
 have hno:isD s[i]=false->numD s = -1:=fun q=>if_neg fun w=>by
  have:=List.all_eq_true.1 w.2.2 _ (List.getElem_mem hi');rw[q] at this;cases this
 have hyes:isD s[i]=true->(s.take (i+1)).all isD=true:=fun q=>by rw[htk,List.all_append,hall2];simp[q]
 have hd2:isD s[i]=decide (48<=s[i].toNat/\s[i].toNat<=57):=rfl;rw[<-htk] at hvs;have hgi:s[i].toNat<256:=s[i].toNat_lt;refine zy ?_;refine ZAB rfl rfl rfl rfl (ZAi (k:=i) Und.h rfl rfl rfl hi') ?_;refine zy ?_
 by_cases k1:((s[i].toNat:Nat):Int)<48
 ·rw[hno (by rw[hd2];exact decide_eq_false fun q=>by omega)]
  refine ZAB rfl rfl rfl rfl (A_tt k1 (ZCF rfl rfl)) ?_;refine zy ?_;exact ZAD (ZAE rfl ⟨rfl,rfl⟩)
 refine ZAB rfl rfl rfl rfl (A_ff k1 (ZCF rfl rfl)) ?_;refine zy ?_;refine ZAB rfl rfl rfl rfl (ZAi (k:=i) Und.h rfl rfl rfl hi') ?_
 by_cases k2:(57:Int)<((s[i].toNat:Nat):Int)
 ·rw[hno (by rw[hd2];exact decide_eq_false fun q=>by omega)]
  refine ZAB rfl rfl rfl rfl (A_tt k2 (ZB1 rfl rfl)) ?_;refine zy ?_;exact ZAD (ZAE rfl ⟨rfl,rfl⟩)
 refine ZAB rfl rfl rfl rfl (A_ff k2 (ZB1 rfl rfl)) ?_;have hal:=hyes (by rw[hd2];exact decide_eq_true ⟨by omega,by omega⟩);refine zy ?_;refine ZAB rfl rfl rfl rfl (ZOr rfl rfl (by omega) (by omega)) ?_;refine zy ?_;refine ZAB rfl rfl rfl rfl (ZAi (k:=i) Und.h rfl rfl rfl hi') ?_;refine ZAB rfl rfl rfl rfl (ZNp (n:=((s[i].toNat-48:Nat):Int)) rfl rfl (by rw[ZLE ⟨by omega,by omega⟩];omega)) ?_;refine ZAB rfl rfl rfl rfl (ZIK (n':=((s[i].toNat-48:Nat):Int)) ⟨_,Und.h⟩ Und.h rfl (IntWalk.i64_in _ (by omega))) ?_;refine ZAB rfl rfl rfl rfl (ZIM rfl rfl (by omega) (by omega)) ?_;refine zy ?_;refine⟨i+1,(by show s.length-(i+1)<s.length-i;omega),rfl,rfl,hi',hal,rfl,?_,rfl,trivial⟩
 rw[hvs];have:(10*((valG 0 (s.take i):Nat):Int)+((s[i].toNat-48:Nat):Int))=((10*valG 0 (s.take i)+(s[i].toNat-48):Nat):Int):=by omega
 rw[<-this]
 rfl
set_option maxHeartbeats 2000000 in
theorem ZOI (s:Byt)(hs:s.length<=1000000)(h:Heap):Sv Tryz.prog 127 [str s,i64 3] h (RetP fun v h'=>v=str (aftB 3 s)/\h'=h):=by
 refine ZAJ Tryz.func127 rfl (by rw[Tryz.ntmps127];rfl) ?_;show Wc Tryz.prog ⟨127,24,none⟩ _ _ _ _ _;refine zy ?_;refine ZBC (fun (st:Nat×Nat) m ds h'=>ds=[]/\h'=h/\st.1<=s.length/\1<=st.2/\st.2<=3/\aftB 3 s=aftB st.2 (s.drop st.1)/\AllK m [(0,str s),(1,i64 (st.2:Nat)),(5,i64 (st.1:Nat))]) (fun st=>s.length-st.1) (0,3) ⟨rfl,rfl,Nat.zero_le _,by decide,by decide,rfl,rfl,rfl,rfl,trivial⟩ ?_;rintro⟨i,n⟩ m ds h' ⟨rfl,rfl,hi,hn1,hn3,haf,hall⟩;simp only at hi hn1 hn3 haf hall;refine Wc.le ?_ (Le.kn hall);clear hall;refine zy ?_;refine ZAl rfl rfl rfl rfl (ZCF rfl rfl) (fun hlt=>?_) (fun hlt=>?_);rotate_left
 ·have hi2:i=s.length:=by omega
  subst hi2;have hn:aftB 3 s=[]:=by rw[haf,List.drop_length,aftB]
  rw[hn];refine zy ?_;exact ZAD (ZAE rfl ⟨rfl,rfl⟩)
 have hi':i<s.length:=by omega
 rw[List.drop_eq_getElem_cons hi',aftB] at haf;refine zy ?_;refine ZAB rfl rfl rfl rfl (ZAi (k:=i) Und.h rfl rfl rfl hi') ?_;have h32:(32:UInt8).toNat=32:=rfl
 by_cases hc:s[i]=32
 ·rw[if_pos hc] at haf
  refine ZAB rfl rfl rfl rfl (A_tt (show ((s[i]).toNat:Int)=32 by rw[hc];rfl) (ZCL rfl rfl)) ?_;refine zy ?_
  by_cases hn:n=1
  ·subst hn
   rw[if_pos rfl] at haf;refine ZAB rfl rfl rfl rfl (A_tt (show ((1:Nat):Int)-1=0 by omega) (ZCL rfl rfl)) ?_;refine zy ?_;refine ZAB rfl rfl rfl rfl (ZBi (k:=i+1) Und.h rfl rfl (by omega) hi') ?_;refine zy ?_;exact ZAD (ZAE rfl ⟨by rw[haf];rfl,rfl⟩)
  ·rw[if_neg hn] at haf
   refine ZAB rfl rfl rfl rfl (A_ff (show ¬((n:Nat):Int)-1=0 by omega) (ZCL rfl rfl)) ?_;have hk:((n:Nat):Int)-1=((n-1:Nat):Int):=by omega
   rw[hk];refine zy ?_;exact⟨(i+1,n-1),(by show s.length-(i+1)<s.length-i;omega),rfl,rfl,hi',(by show 1<=n-1;omega),(by show n-1<=3;omega),haf,rfl,rfl,rfl,trivial⟩
 ·rw[if_neg hc] at haf
  refine ZAB rfl rfl rfl rfl (A_ff (show ¬((s[i]).toNat:Int)=32 from fun e=>hc (UInt8.toNat.inj (by omega))) (ZCL rfl rfl)) ?_;refine zy ?_;refine ZAB rfl rfl rfl rfl (A_ff (show ¬((n:Nat):Int)=0 by omega) (ZCL rfl rfl)) ?_;refine zy ?_;exact⟨(i+1,n),(by show s.length-(i+1)<s.length-i;omega),rfl,rfl,hi',hn1,hn3,haf,rfl,rfl,rfl,trivial⟩
theorem ZIi (s:Byt):I64 (numD s):=by
 unfold numD
 split
 ·rename_i hq
  have h1:=ZIB s 0 hq.2.2;have h2:10 ^ s.length<=10 ^ 9:=Nat.pow_le_pow_right (by decide) hq.2.1;exact⟨by omega,by omega⟩
 ·exact⟨by decide,by decide⟩
theorem ZIE:∀(s:Byt)(n:Nat),(aftB n s).length<=s.length
 | [],n=>by rw[aftB];exact Nat.le_refl _
 | c::s,n=>by
  rw[aftB,List.length_cons]
  split
  ·split
   ·omega
   ·have:=ZIE s (n-1);omega
  ·have:=ZIE s n;omega
set_option maxHeartbeats 8000000 in
theorem ZHF {s:Byt}{h:Heap}(hs:Len s):Sv Tryz.prog 54 [str s] h (RetP fun v h'=>ZL7 s v h'/\Ext h h'):=by
 refine ZFF fun hw=>?_;refine ZAJ Tryz.func54 rfl (by rw[Tryz.ntmps54];rfl) ?_;show Wc Tryz.prog ⟨54,55,none⟩ _ _ _ _ _;refine zy ?_
 by_cases h8:8000<s.length
 ·have hA:ZBI s=([],3):=if_pos h8
  refine ZAB rfl rfl rfl rfl (A_tt (by omega) (ZB1 rfl rfl)) ?_;refine zy ?_;exact ZAD (ZAE rfl ⟨⟨none,0,by rw[hA];rfl,by rw[hA];exact fun i hi=>absurd hi (Nat.not_lt_zero _)⟩,Ext.refl _⟩)
 have hsl:s.length<=8000:=by omega
 have hrA:=ZK7 s h8;obtain⟨hLl,hLx⟩:=ZE7 10 s;refine ZAB rfl rfl rfl rfl (A_ff (by omega) (ZB1 rfl rfl)) ?_;refine zy ?_;refine ZAb rfl rfl rfl rfl rfl Bod.h rfl rfl (ZF5 (c:=10) (by omega)) ?_;rintro vL h1 ⟨hFL,hE1⟩;have hO1:=(Own.nil h h).newSl hw (Nat.le_refl _) hE1 hFL;obtain⟨aL,rfl,-,-⟩:=hFL.list;clear hFL;have hne:=ZCg 10 s;generalize ZAR 10 s=W at *;have hWl:1<=W.length:=List.length_pos_iff.2 hne;have hdl:W.dropLast.length=W.length-1:=List.length_dropLast;refine zy ?_;refine ZBC (fun (st:List Ttl×Value) m ds h'=>ds=[]/\st.1.length<=W.length-1/\refP (W.dropLast.take st.1.length)=some st.1/\(∀x∈st.1,x.Fit)/\Own h h' [slI h st.2 75 3 (st.1.flatMap ttVs) st.1.length,slI h (.slice aL W.length W.length) 9 1 (W.map str) W.length]/\Ext h h'/\AllK m [(0,str s),(4,st.2),(5,.slice aL W.length W.length),(6,i64 (st.1.length:Nat))]) (fun st=>W.length-st.1.length) ([],.slice none 0 0) ?_ ?_
 ·exact⟨rfl,Nat.zero_le _,rfl,(fun _ h=>nomatch h),hO1.nilSl _ _,hE1,rfl,rfl,rfl,rfl,trivial⟩
 rintro⟨l,v⟩ m ds h2 ⟨rfl,hl,hp,hfit,hO,hE,hall⟩;simp only at hl hp hfit hO hall;refine Wc.le ?_ (Le.kn hall);clear hall hO1 hE1;refine zy ?_;refine ZAl rfl rfl rfl rfl (ZCF rfl rfl) (fun hlt=>?_) (fun hlt=>?_);rotate_left
 ·have hl2:l.length=W.dropLast.length:=by omega
  rw[hl2,List.take_length] at hp;rw[hp] at hrA;simp only at hrA;obtain⟨av,cv,rfl,hrows⟩:=ZDd (show ZAG h h2 v 75 3 (l.flatMap ttVs) l.length from hO.p1);refine zy ?_;refine ZAP rfl rfl rfl rfl rfl Bod.h rfl rfl (ZEH hrows hfit (show _<_ by omega)) ?_
  by_cases he:ZAH l=0
  rotate_left
  ·rw[if_neg fun q=>he q.1] at hrA
   refine ZAB rfl rfl rfl rfl (A_tt he (ZFT rfl rfl)) ?_;refine zy ?_;exact ZAD (ZAE rfl ⟨⟨none,0,by rw[hrA];rfl,by rw[hrA];exact fun i hi=>absurd hi (Nat.not_lt_zero _)⟩,hE⟩)
  refine ZAB rfl rfl rfl rfl (A_ff (fun q=>q he) (ZFT rfl rfl)) ?_;refine zy ?_;refine ZBY rfl rfl rfl rfl rfl Bod.h rfl rfl (ZFu hrows he) fun h3 hE3=>?_;refine zy ?_
  by_cases hq:ZAV 0 l=s
  rotate_left
  ·rw[if_neg fun q=>hq q.2] at hrA
   refine ZAB rfl rfl rfl rfl (A_tt hq (ZDe rfl rfl)) ?_;refine zy ?_;exact ZAD (ZAE rfl ⟨⟨none,0,by rw[hrA];rfl,by rw[hrA];exact fun i hi=>absurd hi (Nat.not_lt_zero _)⟩,hE.trans hE3⟩)
  rw[if_pos ⟨he,hq⟩] at hrA;refine ZAB rfl rfl rfl rfl (A_ff (fun q=>q hq) (ZDe rfl rfl)) ?_;obtain⟨a',c',hv',hrows'⟩:=ZDd (show ZAG h h3 (.slice av l.length cv) 75 3 (l.flatMap ttVs) l.length from (hO.ext hE3).p1);simp only[Value.slice.injEq,true_and] at hv';obtain⟨rfl,rfl⟩:=hv';refine zy ?_;exact ZAD (ZAE rfl ⟨⟨av,cv,by rw[hrA];rfl,by rw[hrA];exact hrows'⟩,hE.trans hE3⟩)
 have hi':l.length<W.dropLast.length:=by omega
 have hiW:l.length<W.length:=by omega
 have hgl:W.dropLast[l.length]=W[l.length]:=by rw[List.getElem_dropLast]
 have htk:W.dropLast.take (l.length+1)=W.dropLast.take l.length++[W[l.length]]:=by rw[List.take_succ_eq_append_getElem hi',hgl]
 have hxl:(W[l.length]).length<=8000:=by
  have:=hLx _ (List.getElem_mem hiW);omega
 obtain⟨bL,oL,oaL,rfl,hcL⟩:∃b o oa,aL=some ⟨b,o,oa⟩/\ZAX h2 b (o+l.length*1)=some (str W[l.length]):=by
  obtain⟨a,e1,-,e3⟩:=(show ZAG h h2 (.slice aL W.length W.length) 9 1 (W.map str) W.length from hO.up2.p1).list;simp only[Value.slice.injEq,and_true] at e1;obtain rfl:=e1;exact e3 _ hiW
 generalize hX:W[l.length]=x at *;refine zy ?_;refine ZAB rfl rfl rfl rfl (A_ix Und.h Tsz.h rfl rfl) ?_;refine zy ?_;refine ZDI fun hw2=>?_;refine ZAb rfl rfl rfl rfl rfl Bod.h rfl rfl (ZF5 (s:=x) (c:=32) (by omega)) ?_;rintro vw h3 ⟨hFw,hE23⟩;have hO3:=hO.newSl hw2 hE.2.1 hE23 hFw;have hE3:=hE.trans hE23;have hcL3:=hE23.cell hcL;obtain⟨aw,rfl,-,hws⟩:=hFw.list;clear hFw hO hE hE23 hcL;refine zy ?_
 by_cases h4:(ZAR 32 x).length<4
 ·have hrx:refL x=none:=if_pos h4
  have hn:refP W.dropLast=none:=by
   have:=ZK8 (L:=W.dropLast.take (l.length+1)) (M:=W.dropLast.drop (l.length+1)) (by rw[htk,ZFE,hp,hrx];rfl)
   rwa [List.take_append_drop] at this
  rw[hn] at hrA;refine ZAB rfl rfl rfl rfl (A_tt (by omega) (ZCF rfl rfl)) ?_;refine zy ?_;exact ZAD (ZAE rfl ⟨⟨none,0,by rw[hrA];rfl,by rw[hrA];exact fun i hi=>absurd hi (Nat.not_lt_zero _)⟩,hE3⟩)
 have hrx:refL x=some ⟨numD ((ZAR 32 x)[1]?.getD []),numD ((ZAR 32 x)[2]?.getD []),aftB 3 x⟩:=if_neg h4;have hxs:=(ZE7 32 x).2;obtain⟨bw,ow,oaw,rfl,hc1⟩:=hws 1 (by omega);obtain⟨bw',ow',oaw',hae,hc2⟩:=hws 2 (by omega);cases hae;rw[List.getElem?_eq_getElem (show 1<_ by omega),List.getElem?_eq_getElem (show 2<_ by omega),Option.getD_some,Option.getD_some] at hrx;have hl1:=hxs _ (List.getElem_mem (show 1<(ZAR 32 x).length by omega));have hl2:=hxs _ (List.getElem_mem (show 2<(ZAR 32 x).length by omega));generalize (ZAR 32 x)[1]=w1 at *;generalize (ZAR 32 x)[2]=w2 at *;have hwn:3<=(ZAR 32 x).length:=by omega
 generalize (ZAR 32 x).length=nw at *;have hal:=ZIE x 3;have i1:=ZIi w1;have i2:=ZIi w2;refine ZAB rfl rfl rfl rfl (A_ff (by omega) (ZCF rfl rfl)) ?_;refine ZDI fun hw3=>?_;refine zy ?_;have hEa:=Ext.add hw3 (.cells [i64 (numD w1),i64 (numD w2),str (aftB 3 x)] 75 false);have hn3:=hE3.2.1;refine ZBK hmix [0,0,2,6,14,0,32,96,254,0,0,1536,3584,8190,16382,32766,65535,131071] [0,1,2,3,5,6,7,9,10,11,12] (some 4) [([],(some 8)),([],(some 13)),([14,15],(some 16)),([],(some 17)),([],none)] (by kernel_rfl) (by kernel_rfl) ?_;refine z_m ?_;refine z_m ?_;refine ZAF rfl rfl rfl rfl rfl (fun _=>ZAQ (k:=1) Und.h Tsz.h rfl rfl rfl (by omega)) ?_;refine z_l ?_;refine z_m ?_;refine ZAF rfl rfl rfl rfl rfl (fun _=>ZAQ (k:=2) Und.h Tsz.h rfl rfl rfl (by omega)) ?_;refine z_l ?_;refine z_m ?_;refine z_m ?_;refine ZAF rfl rfl rfl rfl rfl (fun _=>A_ix (k:=l.length) Und.h Tsz.h rfl rfl) ?_;refine z_l ?_
 refine ZAr [1,2,3] (by kernel_rfl) rfl (ZAL rfl) rfl nb rfl (ZGp rfl rfl rfl rfl rfl Bod.h (ZKD w1 (by omega) h3) ?_);refine ZAr [1,2,3,4,5,6,7] (by kernel_rfl) rfl (by refine t_l 12 ?_;refine ZAN (i:=11) rfl rfl rfl rfl rfl (fun _=>A_ix (k:=l.length) Und.h Tsz.h rfl rfl) rfl ?_;refine t_m 10 ?_;refine t_m 9 ?_;refine t_l 7 ?_;refine ZAN (i:=6) rfl rfl rfl rfl rfl (fun _=>ZAQ (k:=2) Und.h Tsz.h rfl rfl rfl (by omega)) rfl ?_;refine t_m 5 ?_;refine t_m 0 ?_;exact ZAL rfl) rfl nb rfl (ZGp rfl rfl rfl rfl rfl Bod.h (ZKD w2 (by omega) h3) ?_);refine ZAr [1,2,3,4,5,6,7,8,9,10,11,12] (by kernel_rfl) rfl (by refine t_l 12 ?_;refine ZAN (i:=11) rfl rfl rfl rfl rfl (fun _=>A_ix (k:=l.length) Und.h Tsz.h rfl rfl) rfl ?_;refine t_m 10 ?_;refine t_m 9 ?_;refine t_m 0 ?_;exact ZAL rfl) rfl nb rfl (ZGp rfl rfl rfl rfl rfl Bod.h (ZOI x (by omega) h3) ?_)
 refine z_b ?_;refine ZNz (nk:=.sl _ _) rfl rfl rfl rfl rfl (fun _ _ hs=>N_bs hs Und.h Tsz.h Zr.h rfl rfl rfl rfl rfl) ?_;refine ZAr (h1:=(Heap.add h3 _)) [0,1,2,3,4,5,6,7,8,9,10,11,12,13,14,15] (by kernel_rfl) rfl (by refine t_m 0 ?_;exact ZAL rfl) rfl rfl rfl (ZN6 (ZJX (by':=32) (sz:=3) (k:=1) (n:=l.length) (l:=[i64 (numD w1),i64 (numD w2),str (aftB 3 x)]) rfl hw (hE3.trans hEa) rfl rfl rfl rfl Und.h inferInstance rfl rfl ((hO3.ext hEa).up2) ((ZAG.lit (h0:=h) (n:=1) (sz:=3) Heap.get_add_same rfl hn3).src (dd:=.slice 75) Und.h (by intro k;simp)) rfl rfl (by omega) (by omega) (fun v10 h10 hO10 hE10 hw10=>?_)))
 refine ZAr (h1:=h10) [0,1,2,3,4,5,6,7,8,9,10,11,12,13,14,15,16] (by kernel_rfl) rfl (ZAL rfl) rfl rfl rfl (ZDf rfl rfl (ZAu rfl) ?_);refine ZB8 (h1:=h10) (ZAL rfl) rfl ?_;refine zy ?_;refine⟨(l++[⟨numD w1,numD w2,aftB 3 x⟩],v10),?_,rfl,?_,?_,?_,?_,hE10,rfl,rfl,rfl,?_,trivial⟩
 ·simp only[List.length_append,List.length_singleton];omega
 ·simp only[List.length_append,List.length_singleton];omega
 ·simp only[List.length_append,List.length_singleton]
  rw[htk,ZFE,hp,hrx];rfl
 ·intro y hy
  rcases List.mem_append.1 hy with hy|hy
  ·exact hfit y hy
  ·rw[List.mem_singleton.1 hy]
   exact⟨i1,i2,show _<_ by simp only;omega⟩
 ·simp only[List.flatMap_append,List.length_append,List.length_singleton,List.flatMap_singleton]
  exact hO10.sub (.cons_cons _ (.cons _ (List.Sublist.refl _)))
 ·simp only[List.length_append,List.length_singleton];rfl
end Go.Dw
