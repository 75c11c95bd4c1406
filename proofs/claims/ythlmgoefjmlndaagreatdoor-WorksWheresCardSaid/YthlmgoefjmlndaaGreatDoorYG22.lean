/- J1: contracts: the reference's lists of strings in order: put, has. -/
import Derived.Test.YthlmgoefjmlndaaGreatDoorYG2
import Derived.Test.YthlmgoefjmlndaaGreatDoorYG20
import Derived.Test.YthlmgoefjmlndaaGreatDoorYG13
import Derived.Test.YthlmgoefjmlndaaGreatDoorYG18
import Derived.Test.YthlmgoefjmlndaaGreatDoorYG17
set_option linter.unusedVariables false
set_option linter.unusedSimpArgs false
namespace Go.Dw
open Go Go.Dx Go.Proofs
set_option maxRecDepth 100000
theorem ZSx {b:Nat}{sp:Option Nat}(hsp:sp=none\/sp=some 1){h':Heap}{m:Mem}{d:Option Tmp}{ty:TypeId}{pos:String}{af:Array Edge}{gu:Option (Nat×Bool)}{x j:Operand}(hx:opk h' m x=some (.slice (some ⟨b,0,sp⟩) 0 0))(hj:opk h' m j=some (i64 0)):Aop Tryz.prog ⟨d,.slice 38 x none (some j) none,ty,pos,af,gu⟩ m h' (.slice (some ⟨b,0,sp⟩) 0 0) h' :=
 ZAg fun e hs=>by
  show ZBb Tryz.prog _ h' e _ x none (some j) none=_
  unfold ZBb;simp only[ZAL hs hx,opvo,ZAL hs hj];have hu:Tryz.prog.underlying 38=some (.slice 9):=Und.h;have hz:tsz Tryz.prog 9=some 1:=Tsz.h;have hsb:sb 0 0 none (some (i64 0)) none=some (0,0,0):=rfl;have:ZA4 Tryz.prog 38 (.slice (some ⟨b,0,sp⟩) 0 0) none (some (i64 0)) none=some (.slice (some ⟨b,0,sp⟩) 0 0):=by
   unfold ZA4;rw[hu]
   rcases hsp with rfl|rfl
   ·simp only[hsb,hz];rfl
   ·simp only[hsb,hz];rfl
  rw[this]
theorem ZOO {b:Nat}{sp:Option Nat}(hsp:sp=none\/sp=some 1){h':Heap}{m:Mem}{d:Option Tmp}{ty:TypeId}{pos:String}{af:Array Edge}{gu:Option (Nat×Bool)}{x j:Operand}(hx:opk h' m x=some (.slice (some ⟨b,0,sp⟩) 0 0))(hj:opk h' m j=some (i64 0)):Aop Tryz.prog ⟨d,.slice 38 x (some j) none none,ty,pos,af,gu⟩ m h' (.slice (some ⟨b,0,sp⟩) 0 0) h' :=
 ZAg fun e hs=>by
  show ZBb Tryz.prog _ h' e _ x (some j) none none=_
  unfold ZBb;simp only[ZAL hs hx,opvo,ZAL hs hj];have hu:Tryz.prog.underlying 38=some (.slice 9):=Und.h;have hz:tsz Tryz.prog 9=some 1:=Tsz.h;have hsb:sb 0 0 (some (i64 0)) none none=some (0,0,0):=rfl;have:ZA4 Tryz.prog 38 (.slice (some ⟨b,0,sp⟩) 0 0) (some (i64 0)) none none=some (.slice (some ⟨b,0,sp⟩) 0 0):=by
   unfold ZA4;rw[hu]
   rcases hsp with rfl|rfl
   ·simp only[hsb,hz];rfl
   ·simp only[hsb,hz];rfl
  rw[this]
theorem ZSv {h0 h:Heap}{v:Value}{l:List Str}{i:Nat}(hF:ZAA h0 h v 9 1 (l.map str) l.length)(hi:i<=l.length):∃v',(∀h1 h0',ZAA h0' h1 v 9 1 (l.map str) l.length->asrc Tryz.prog 9 1 38 v' h1=some (i,(l.take i).map str))/\∀{h':Heap}{m:Mem}{d:Option Tmp}{ty:TypeId}{pos:String}{af:Array Edge}{gu:Option (Nat×Bool)}{x j:Operand},opk h' m x=some v->opk h' m j=some (i64 (i:Int))->Aop Tryz.prog ⟨d,.slice 38 x none (some j) none,ty,pos,af,gu⟩ m h' v' h':=by
 rcases Nat.eq_zero_or_pos l.length with hz|hpos
 ·have hL:l=[]:=List.eq_nil_of_length_eq_zero hz
  subst hL;obtain rfl:i=0:=Nat.le_zero.1 hi;refine⟨v,fun h1 h0' hF1=>hF1.src (dd:=.slice 9) Und.h (by intro k;simp),fun hx hj=>?_⟩
  rcases hF with ⟨rfl,-,-⟩|⟨b,sp,op,rfl,-,-,-,hsp⟩
  ·exact ZMW Und.h Tsz.h hx hj
  ·exact ZSx hsp hx hj
 ·obtain⟨w1,hz1,hA1⟩:=ZPc (P:=Tryz.prog) (ki:=.i64) (t:=38) (tX:=38) (dd:=.slice 9) hF hpos Und.h Tsz.h Und.h (by intro k;simp) hi
  rw[<-List.map_take] at hz1;exact⟨w1,hz1,hA1⟩
theorem ZO3 {h0 h:Heap}{v:Value}{l:List Str}{i:Nat}(hF:ZAA h0 h v 9 1 (l.map str) l.length)(hi:i<=l.length):∃v',(∀h1 h0',ZAA h0' h1 v 9 1 (l.map str) l.length->asrc Tryz.prog 9 1 38 v' h1=some (l.length-i,(l.drop i).map str))/\∀{h':Heap}{m:Mem}{d:Option Tmp}{ty:TypeId}{pos:String}{af:Array Edge}{gu:Option (Nat×Bool)}{x j:Operand},opk h' m x=some v->opk h' m j=some (i64 (i:Int))->Aop Tryz.prog ⟨d,.slice 38 x (some j) none none,ty,pos,af,gu⟩ m h' v' h':=by
 rcases Nat.eq_zero_or_pos l.length with hz|hpos
 ·have hL:l=[]:=List.eq_nil_of_length_eq_zero hz
  subst hL;obtain rfl:i=0:=Nat.le_zero.1 hi;refine⟨v,fun h1 h0' hF1=>hF1.src (dd:=.slice 9) Und.h (by intro k;simp),fun hx hj=>?_⟩
  rcases hF with ⟨rfl,-,-⟩|⟨b,sp,op,rfl,-,-,-,hsp⟩
  ·exact ZIf Und.h Tsz.h hx hj
  ·exact ZOO hsp hx hj
 ·obtain⟨w1,hz1,hA1⟩:=ZME (P:=Tryz.prog) (ki:=.i64) (t:=38) (tX:=38) (dd:=.slice 9) hF hpos Und.h Tsz.h Und.h (by intro k;simp) hi
  rw[<-List.map_drop] at hz1;exact⟨w1,hz1,hA1⟩
theorem ZMr {x:Str}:∀{L:List Str}{i:Nat},i<=L.length->(∀j (hj:j<L.length),j<i->ltB L[j] x)->(∀h:i<L.length,¬ltB L[i] x)->insU ltB x L=if ∃h:i<L.length,L[i]=x then L else L.take i++x::L.drop i
 | [],i,hi,_,_=>by
  obtain rfl:i=0:=Nat.le_zero.1 hi;rw[if_neg (fun ⟨h,_⟩=>absurd h (Nat.not_lt_zero _))]
  rfl
 | y::L,0,_,_,h2=>by
  have:¬ltB y x:=h2 (Nat.zero_lt_succ _);rw[insU,if_neg this]
  by_cases e:y=x
  ·rw[if_pos e,if_pos ⟨Nat.zero_lt_succ _,e⟩]
  ·rw[if_neg e,if_neg (fun ⟨_,q⟩=>e q)];rfl
 | y::L,i+1,hi,h1,h2=>by
  have hy:ltB y x:=h1 0 (Nat.zero_lt_succ _) (Nat.zero_lt_succ _);rw[insU,if_pos hy,ZMr (L:=L) (i:=i) (Nat.le_of_succ_le_succ hi) (fun j hj hlt=>h1 (j+1) (Nat.succ_lt_succ hj) (Nat.succ_lt_succ hlt)) (fun h=>h2 (Nat.succ_lt_succ h))]
  by_cases e:∃h:i<L.length,L[i]=x
  ·obtain⟨h,q⟩:=e
   rw[if_pos ⟨h,q⟩,if_pos ⟨Nat.succ_lt_succ h,q⟩]
  ·rw[if_neg e,if_neg (fun ⟨h,q⟩=>e ⟨Nat.lt_of_succ_lt_succ h,q⟩)]
   rfl
theorem ZSm {a:Option Addr}{cap:Nat}{l:List Str}{k:Str}{h:Heap}(hR:ZA8 str h a l)(hlen:Len l):Sv Tryz.prog 67 [.slice a l.length cap,str k] h (RetP fun v h'=>v=.bool (decide (k∈l))/\h'=h):=by
 refine ZAG Tryz.func67 rfl (by rw[Tryz.ntmps67];rfl) ?_;show Wc Tryz.prog ⟨67,18,none⟩ _ _ _ _ _;refine zy ?_;refine ZAQ (fun (j:Nat) m ds h'=>ds=[]/\h=h'/\j<=l.length/\k ∉ l.take j/\AllK m [(0,.slice a l.length cap),(1,str k),(5,i64 (j:Nat))]) (fun j=>l.length-j) 0 ?_ ?_
 ·exact⟨rfl,rfl,Nat.zero_le _,by simp,rfl,rfl,rfl,trivial⟩
 rintro j m ds h' ⟨rfl,rfl,hj,hno,hall⟩;refine Wc.le ?_ (Le.kn hall);clear hall;refine zy ?_;refine ZAN rfl rfl rfl rfl (ZAY rfl rfl) (fun hjl=>?_) (fun hjl=>?_);rotate_left
 ·refine zy ?_
  have:j=l.length:=by omega
  subst this;rw[List.take_length] at hno;exact ZAE (ZAF rfl ⟨by rw[decide_eq_false hno];rfl,rfl⟩)
 have hj':j<l.length:=by omega
 obtain⟨b,o,oa,rfl,hc⟩:=hR j hj';have htk:l.take (j+1)=l.take j++[l[j]]:=by rw[List.take_add_one,List.getElem?_eq_getElem hj'];rfl
 have hmem:l[j]∈l:=List.getElem_mem hj';generalize l[j]=x at *;refine zy ?_;refine ZAD rfl rfl rfl rfl (A_ix Und.h Tsz.h rfl rfl) ?_;refine zy ?_
 by_cases he:x=k
 ·subst he
  refine ZAD rfl rfl rfl rfl (A_tt rfl (ZAf rfl rfl)) ?_;refine zy ?_;exact ZAE (ZAF rfl ⟨by rw[decide_eq_true hmem];rfl,rfl⟩)
 ·refine ZAD rfl rfl rfl rfl (A_ff he (ZAf rfl rfl)) ?_
  refine zy ?_;refine⟨j+1,(by show l.length-(j+1)<l.length-j;omega),rfl,rfl,hj',?_,rfl,rfl,rfl,trivial⟩;rw[htk,List.mem_append,List.mem_singleton];rintro (q|q)
  ·exact hno q
  ·exact he q.symm
theorem ZRw {h0 h:Heap}{v:Value}{L:List Str}{y:Str}(hF:ZAA h0 h v 9 1 (L.map str) L.length)(hE0:Ext h0 h)(hlen:L.length<=1000000) :
  Sv Tryz.prog 115 [v,str y] h (RetP fun v' h'=>ZAA h0 h' v' 9 1 ((insU ltB y L).map str) (insU ltB y L).length/\Ext h h'/\(v'=v\/∀c,ZBC v'=some c->h.nx<=c)):=by
 refine ZC9 fun hw=>?_;obtain⟨aL,hv,-,hl⟩:=ZAA.list (enc:=str) hF;refine ZAG Tryz.func115 rfl (by rw[Tryz.ntmps115];rfl) ?_;show Wc Tryz.prog ⟨115,45,none⟩ _ _ _ _ _;subst hv;refine zy ?_
 refine Wc.mono (Q:=fun z m' ds' h'=>z=.exit 0/\ds'=[]/\h=h'/\∃i,i<=L.length/\(∀j (hj:j<L.length),j<i->ltB L[j] y)/\(∀h:i<L.length,¬ltB L[i] y) ∧
   AllK m' [(0,.slice aL L.length L.length),(1,str y),(5,i64 i)]) ?_ ?_
 ·refine ZAQ (fun (i:Nat) m ds h'=>ds=[]/\h=h'/\i<=L.length/\(∀j (hj:j<L.length),j<i->ltB L[j] y) ∧
    AllK m [(0,.slice aL L.length L.length),(1,str y),(5,i64 i)]) (fun i=>L.length-i) 0 ?_ ?_
  ·exact⟨rfl,rfl,Nat.zero_le _,(fun _ _ hj=>by omega),rfl,rfl,rfl,trivial⟩
  rintro i m ds h' ⟨rfl,rfl,hi,hlo,hall⟩;refine Wc.le ?_ (Le.kn hall);clear hall;refine zy ?_
  by_cases h6:i<L.length
  rotate_left
  ·refine ZAD rfl rfl rfl rfl (A_ff (by omega) (ZAY rfl rfl)) ?_
   refine zy ?_;exact⟨rfl,rfl,rfl,i,hi,hlo,(fun h=>absurd h h6),rfl,rfl,rfl,trivial⟩
  obtain⟨b,o,oa,rfl,hc⟩:=hl i h6;refine ZAD rfl rfl rfl rfl (A_tt (by omega) (ZAY rfl rfl)) ?_;refine zy ?_;refine ZAD rfl rfl rfl rfl (A_ix Und.h Tsz.h rfl rfl) ?_;refine zy ?_
  by_cases h7:ltB L[i] y
  ·refine ZAD rfl rfl rfl rfl (A_tt h7 (ZEP rfl rfl)) ?_
   refine zy ?_;refine⟨i+1,(by show L.length-(i+1)<L.length-i;omega),rfl,rfl,h6,?_,rfl,rfl,rfl,trivial⟩;intro j hj hlt
   rcases Nat.lt_or_ge j i with g|g
   ·exact hlo j hj g
   ·have:j=i:=by omega
    subst this;exact h7
  ·refine ZAD rfl rfl rfl rfl (A_ff h7 (ZEP rfl rfl)) ?_
   refine zy ?_;exact⟨rfl,rfl,rfl,i,hi,hlo,(fun _=>h7),rfl,rfl,rfl,trivial⟩
 rintro _ m _ _ ⟨rfl,rfl,rfl,i,hi,hlo,hhi,hall⟩
 show Wc _ _ _ _ _ _ _
 refine Wc.le ?_ (Le.kn hall);have hins:=ZMr hi hlo hhi;clear hlo hhi hall
 by_cases hsame:∃h:i<L.length,L[i]=y
 ·rw[if_pos hsame] at hins
  obtain⟨h6,he⟩:=hsame;obtain⟨b,o,oa,rfl,hc⟩:=hl i h6;rw[he] at hc;refine zy ?_;refine ZAD rfl rfl rfl rfl (A_tt (by omega) (ZAY rfl rfl)) ?_;refine zy ?_;refine ZAD rfl rfl rfl rfl (A_ix Und.h Tsz.h rfl rfl) ?_;refine zy ?_;refine ZAD rfl rfl rfl rfl (A_tt rfl (ZAf rfl rfl)) ?_;refine zy ?_;exact ZAE (ZAF rfl ⟨by rw[hins];exact hF,Ext.refl _,.inl rfl⟩)
 rw[if_neg hsame] at hins;have hti:(L.take i).length=i:=by rw[List.length_take];omega
 have hdi:(L.drop i).length=L.length-i:=List.length_drop;refine ZGb (Wc.mono (Q:=fun z m' ds' h'=>z=.normal/\ds'=[]/\h=h'/\AllK m' [(0,.slice aL L.length L.length),(1,str y),(5,i64 i)]) ?_ ?_)
 ·by_cases h6:i<L.length
  ·have hne:¬L[i]=y:=fun e=>hsame ⟨h6,e⟩
   obtain⟨b,o,oa,rfl,hc⟩:=hl i h6;refine zy ?_;refine ZAD rfl rfl rfl rfl (A_tt (by omega) (ZAY rfl rfl)) ?_;refine zy ?_;refine ZAD rfl rfl rfl rfl (A_ix Und.h Tsz.h rfl rfl) ?_;refine zy ?_;refine ZAD rfl rfl rfl rfl (A_ff hne (ZAf rfl rfl)) ?_;refine zy ?_;exact⟨rfl,rfl,rfl,rfl,rfl,rfl,trivial⟩
  ·refine zy ?_
   refine ZAD rfl rfl rfl rfl (A_ff (by omega) (ZAY rfl rfl)) ?_;refine zy ?_;exact⟨rfl,rfl,rfl,rfl,rfl,rfl,trivial⟩
 rintro _ m _ _ ⟨rfl,rfl,rfl,hall⟩
 show Wc _ _ _ _ _ _ _
 refine Wc.le ?_ (Le.kn hall);clear hall;obtain⟨w1,hz1,hA1⟩:=ZSv hF hi;obtain⟨w2,hz2,hA2⟩:=ZO3 hF hi;have hEa0:=Ext.add hw (.cells [] 9 false);have hEa:=hEa0.trans (Ext.rsv (Heap.add h (.cells [] 9 false)));have hOa0:Own h (Heap.add h (.cells [] 9 false)) [slI h (.slice (some ⟨h.nx,0,none⟩) 0 0) 9 1 [] 0]:=(Own.nil h h).newSl hw (Nat.le_refl _) hEa0 (ZAA.lit Heap.get_add_same rfl (Nat.le_refl _));have hne:=hOa0.ne (hw.add _) (Nat.le_refl (h.nx+1));refine zy ?_;refine ZAM hmix [0,0,0,6,15,0,32,127,0,0,768,2047,4095] [0,1,2,3,5,6,8,9,10] (some 4) [([],(some 7)),([],(some 11)),([],(some 12)),([],none)] (by kernel_rfl) (by kernel_rfl) ?_
 refine ZC5 (nk:=.sl _ _) rfl rfl rfl rfl rfl (fun _ _ hs=>N_bs hs Und.h Tsz.h Zr.h rfl rfl rfl rfl rfl) ?_;refine z_m ?_;refine z_m ?_;refine ZAB rfl rfl rfl rfl rfl (fun _=>hA1 rfl rfl) ?_;refine z_m ?_;refine ZC5 (nk:=.sl _ _) rfl rfl rfl rfl rfl (fun _ _ hs=>N_bs hs Und.h Tsz.h Zr.h rfl rfl rfl rfl rfl) ?_;refine z_m ?_;refine z_m ?_;refine ZAB rfl rfl rfl rfl rfl (fun _=>hA2 rfl rfl) ?_;refine ZAK (h1:=(rsv (Heap.add h _))) [0,1,2,3] (by kernel_rfl) rfl (ZAC rfl) rfl rfl (kF (kF (kF (kF (kF (dF (dF (dF (dF nF))))))))) (ZBU (ZIc (n1:=h.nx+1) (by':=16) (sz:=1) (k:=i) (n:=0) (l:=(L.take i).map str) rfl hw hEa rfl rfl rfl rfl Und.h inferInstance rfl rfl (hOa0.ext (Ext.rsv _)) (hz1 _ h0 (hF.ext hEa)) (by rw[List.length_map,hti,Nat.mul_one]) (ZIq _) (by omega) (by omega) hne (Nat.lt_succ_self _) (fun v12 h12 hO13 hE12 hne12 hn12 hw12=>?_)))
 have hU12:=Upd.mk' h12 (h.nx+1) (.cells [str y] 9 false);have hO13':=hO13.other (.cells [str y] 9 false) hne12;have hE12':=hU12.ext hE12 hw (Nat.le_succ _);rw[List.nil_append,Nat.zero_add] at hO13';refine ZAK (h1:=(h12.set (h.nx+1) (.cells [str y] 9 false))) [0,1,2,3,4,5,6] (by kernel_rfl) rfl (by refine ZAn (i:=10) rfl rfl rfl rfl rfl (fun _=>hA2 rfl rfl) rfl ?_;refine t_m 9 ?_;refine t_m 8 ?_;refine ZMF (i:=6) (nk:=.sl _ _) rfl rfl rfl rfl rfl (fun _ _ hs=>N_bs hs Und.h Tsz.h Zr.h rfl rfl rfl rfl rfl) rfl ?_;refine t_m 5 ?_;exact ZAC rfl) rfl rfl (kF (kF (kF (dF (dF nF))))) (ZBU (ZBS (by':=16) (sz:=1) (k:=1) (n:=i) (l:=[str y]) rfl hw hE12' rfl rfl rfl rfl Und.h inferInstance rfl rfl hO13' ((ZAA.lit (h0:=h) (n:=1) (sz:=1) hU12.at' rfl (Nat.le_succ _)).src (dd:=.slice 9) Und.h (by intro k;simp)) rfl rfl (by omega) (by omega) (fun v14 h14 hO15 hE14 hw14=>?_)))
 refine ZAK (h1:=h14) [0,1,2,3,4,5,6,7,8,9,10] (by kernel_rfl) rfl (by refine ZAn (i:=10) rfl rfl rfl rfl rfl (fun _=>hA2 rfl rfl) rfl ?_;refine t_m 9 ?_;refine t_m 8 ?_;exact ZAC rfl) rfl rfl (dF (dF (dF nF))) (ZBU (ZBS (by':=16) (sz:=1) (k:=L.length-i) (n:=i+1) (l:=(L.drop i).map str) rfl hw hE14 rfl rfl rfl rfl Und.h inferInstance rfl rfl hO15 (hz2 _ h0 (hF.ext hE14)) (by rw[List.length_map,hdi,Nat.mul_one]) (ZIq _) (by omega) (by omega) (fun v16 h16 hO17 hE16 hw16=>?_)));refine ZAK (h1:=h16) [0,1,2,3,4,5,6,7,8,9,10,11] (by kernel_rfl) rfl (ZAC rfl) rfl rfl nF (ZDm rfl rfl (ZBG rfl) ?_);refine ZAT (h1:=h16) (ZAC rfl) rfl ?_
 refine zy ?_;have hF17:ZAA h h16 _ _ _ _ _:=hO17.p1;refine ZAE (ZAF rfl ⟨?_,hE16,.inr fun c hc=>?_⟩);rotate_left
 ·rcases hF17 with ⟨e,-,-⟩|⟨b',sp,op,e,-,-,hb,-⟩
  ·rw[e] at hc;cases hc
  ·rw[e] at hc;cases hc;exact hb
 rw[hins];have e1:(L.take i++y::L.drop i).map str=(L.take i).map str++[str y]++(L.drop i).map str:=by rw[List.map_append,List.map_cons,List.append_assoc];rfl
 have e2:(L.take i++y::L.drop i).length=i+1+(L.length-i):=by rw[List.length_append,List.length_cons,hti,hdi];omega
 rw[e1,e2];exact hF17.base hE0.2.1
def ZS8 (p:Str×Str)(k:Str):List Str:=(if p.1=k then [p.2] else [])++if p.2=k then [p.1] else []
def ZTp (x:WkR)(k:Str):List Str:=if x.kind=1 then ZS8 (tieI x) k else if x.kind=2 then ZS8 (tieS x) k else []
def adjN (s:List WkR)(k:Str):List Str:=s.flatMap fun x=>ZTp x k
def namA (x:WkR):List Str:=if x.kind=2\/x.kind=3\/x.kind=4 then [x.a] else []
def namB (x:WkR):List Str:=if x.kind=2\/x.kind=3\/x.kind=1 then [x.b] else []
def namN (s:List WkR):List Str:=s.flatMap fun x=>namA x++namB x
def pI (h0:Heap)(q:Value×List Str):It:=slI h0 q.1 9 1 (q.2.map str) q.2.length
def plI (h0:Heap)(v:Value)(P:List (Value×List Str)):It:=slI h0 v 38 1 (P.map Prod.fst) P.length
end Go.Dw
namespace Go.Dw
open Go Go.Dx Go.Proofs
set_option maxRecDepth 100000
end Go.Dw
