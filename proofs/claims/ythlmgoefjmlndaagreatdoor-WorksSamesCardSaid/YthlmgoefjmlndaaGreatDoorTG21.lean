/- J1: contracts: the reference's lists of strings in order: put, has. -/
import Derived.Test.YthlmgoefjmlndaaGreatDoorTG2
import Derived.Test.YthlmgoefjmlndaaGreatDoorTG20
import Derived.Test.YthlmgoefjmlndaaGreatDoorTG13
import Derived.Test.YthlmgoefjmlndaaGreatDoorTG18
import Derived.Test.YthlmgoefjmlndaaGreatDoorTG17
set_option linter.unusedVariables false
set_option linter.unusedSimpArgs false
namespace Go.Dw
open Go Go.Dx Go.Proofs
set_option maxRecDepth 100000
theorem ZSx {b:Nat}{sp:Option Nat}(hsp:sp=none\/sp=some 1){h':Heap}{m:Mem}{d:Option Tmp}{ty:TypeId}{pos:String}{af:Array Edge}{gu:Option (Nat×Bool)}{x j:Operand}(hx:opk h' m x=some (.slice (some ⟨b,0,sp⟩) 0 0))(hj:opk h' m j=some (i64 0)):Aop Tryz.prog ⟨d,.slice 38 x none (some j) none,ty,pos,af,gu⟩ m h' (.slice (some ⟨b,0,sp⟩) 0 0) h' :=
 ZAf fun e hs=>by
  show ZBX Tryz.prog _ h' e _ x none (some j) none=_
  unfold ZBX;simp only[ZAK hs hx,opvo,ZAK hs hj];have hu:Tryz.prog.underlying 38=some (.slice 9):=Und.h;have hz:tsz Tryz.prog 9=some 1:=Tsz.h;have hsb:sb 0 0 none (some (i64 0)) none=some (0,0,0):=rfl;have:ZA1 Tryz.prog 38 (.slice (some ⟨b,0,sp⟩) 0 0) none (some (i64 0)) none=some (.slice (some ⟨b,0,sp⟩) 0 0):=by
   unfold ZA1;rw[hu]
   rcases hsp with rfl|rfl
   ·simp only[hsb,hz];rfl
   ·simp only[hsb,hz];rfl
  rw[this]
theorem ZQN {b:Nat}{sp:Option Nat}(hsp:sp=none\/sp=some 1){h':Heap}{m:Mem}{d:Option Tmp}{ty:TypeId}{pos:String}{af:Array Edge}{gu:Option (Nat×Bool)}{x j:Operand}(hx:opk h' m x=some (.slice (some ⟨b,0,sp⟩) 0 0))(hj:opk h' m j=some (i64 0)):Aop Tryz.prog ⟨d,.slice 38 x (some j) none none,ty,pos,af,gu⟩ m h' (.slice (some ⟨b,0,sp⟩) 0 0) h' :=
 ZAf fun e hs=>by
  show ZBX Tryz.prog _ h' e _ x (some j) none none=_
  unfold ZBX;simp only[ZAK hs hx,opvo,ZAK hs hj];have hu:Tryz.prog.underlying 38=some (.slice 9):=Und.h;have hz:tsz Tryz.prog 9=some 1:=Tsz.h;have hsb:sb 0 0 (some (i64 0)) none none=some (0,0,0):=rfl;have:ZA1 Tryz.prog 38 (.slice (some ⟨b,0,sp⟩) 0 0) (some (i64 0)) none none=some (.slice (some ⟨b,0,sp⟩) 0 0):=by
   unfold ZA1;rw[hu]
   rcases hsp with rfl|rfl
   ·simp only[hsb,hz];rfl
   ·simp only[hsb,hz];rfl
  rw[this]
theorem ZSt {h0 h:Heap}{v:Value}{l:List Str}{i:Nat}(hF:ZAA h0 h v 9 1 (l.map str) l.length)(hi:i<=l.length):∃v',(∀h1 h0',ZAA h0' h1 v 9 1 (l.map str) l.length->asrc Tryz.prog 9 1 38 v' h1=some (i,(l.take i).map str))/\∀{h':Heap}{m:Mem}{d:Option Tmp}{ty:TypeId}{pos:String}{af:Array Edge}{gu:Option (Nat×Bool)}{x j:Operand},opk h' m x=some v->opk h' m j=some (i64 (i:Int))->Aop Tryz.prog ⟨d,.slice 38 x none (some j) none,ty,pos,af,gu⟩ m h' v' h':=by
 rcases Nat.eq_zero_or_pos l.length with hz|hpos
 ·have hL:l=[]:=List.eq_nil_of_length_eq_zero hz
  subst hL;obtain rfl:i=0:=Nat.le_zero.1 hi;refine⟨v,fun h1 h0' hF1=>hF1.src (dd:=.slice 9) Und.h (by intro k;simp),fun hx hj=>?_⟩
  rcases hF with ⟨rfl,-,-⟩|⟨b,sp,op,rfl,-,-,-,hsp⟩
  ·exact ZM0 Und.h Tsz.h hx hj
  ·exact ZSx hsp hx hj
 ·obtain⟨w1,hz1,hA1⟩:=ZPQ (P:=Tryz.prog) (ki:=.i64) (t:=38) (tX:=38) (dd:=.slice 9) hF hpos Und.h Tsz.h Und.h (by intro k;simp) hi
  rw[<-List.map_take] at hz1;exact⟨w1,hz1,hA1⟩
theorem ZPg {h0 h:Heap}{v:Value}{l:List Str}{i:Nat}(hF:ZAA h0 h v 9 1 (l.map str) l.length)(hi:i<=l.length):∃v',(∀h1 h0',ZAA h0' h1 v 9 1 (l.map str) l.length->asrc Tryz.prog 9 1 38 v' h1=some (l.length-i,(l.drop i).map str))/\∀{h':Heap}{m:Mem}{d:Option Tmp}{ty:TypeId}{pos:String}{af:Array Edge}{gu:Option (Nat×Bool)}{x j:Operand},opk h' m x=some v->opk h' m j=some (i64 (i:Int))->Aop Tryz.prog ⟨d,.slice 38 x (some j) none none,ty,pos,af,gu⟩ m h' v' h':=by
 rcases Nat.eq_zero_or_pos l.length with hz|hpos
 ·have hL:l=[]:=List.eq_nil_of_length_eq_zero hz
  subst hL;obtain rfl:i=0:=Nat.le_zero.1 hi;refine⟨v,fun h1 h0' hF1=>hF1.src (dd:=.slice 9) Und.h (by intro k;simp),fun hx hj=>?_⟩
  rcases hF with ⟨rfl,-,-⟩|⟨b,sp,op,rfl,-,-,-,hsp⟩
  ·exact ZIS Und.h Tsz.h hx hj
  ·exact ZQN hsp hx hj
 ·obtain⟨w1,hz1,hA1⟩:=ZMD (P:=Tryz.prog) (ki:=.i64) (t:=38) (tX:=38) (dd:=.slice 9) hF hpos Und.h Tsz.h Und.h (by intro k;simp) hi
  rw[<-List.map_drop] at hz1;exact⟨w1,hz1,hA1⟩
theorem ZMv {x:Str}:∀{L:List Str}{i:Nat},i<=L.length->(∀j (hj:j<L.length),j<i->ltB L[j] x)->(∀h:i<L.length,¬ltB L[i] x)->insU ltB x L=if ∃h:i<L.length,L[i]=x then L else L.take i++x::L.drop i
 | [],i,hi,_,_=>by
  obtain rfl:i=0:=Nat.le_zero.1 hi;rw[if_neg (fun ⟨h,_⟩=>absurd h (Nat.not_lt_zero _))]
  rfl
 | y::L,0,_,_,h2=>by
  have:¬ltB y x:=h2 (Nat.zero_lt_succ _);rw[insU,if_neg this]
  by_cases e:y=x
  ·rw[if_pos e,if_pos ⟨Nat.zero_lt_succ _,e⟩]
  ·rw[if_neg e,if_neg (fun ⟨_,q⟩=>e q)];rfl
 | y::L,i+1,hi,h1,h2=>by
  have hy:ltB y x:=h1 0 (Nat.zero_lt_succ _) (Nat.zero_lt_succ _);rw[insU,if_pos hy,ZMv (L:=L) (i:=i) (Nat.le_of_succ_le_succ hi) (fun j hj hlt=>h1 (j+1) (Nat.succ_lt_succ hj) (Nat.succ_lt_succ hlt)) (fun h=>h2 (Nat.succ_lt_succ h))]
  by_cases e:∃h:i<L.length,L[i]=x
  ·obtain⟨h,q⟩:=e
   rw[if_pos ⟨h,q⟩,if_pos ⟨Nat.succ_lt_succ h,q⟩]
  ·rw[if_neg e,if_neg (fun ⟨h,q⟩=>e ⟨Nat.lt_of_succ_lt_succ h,q⟩)]
   rfl
theorem ZLi {a:Option Addr}{cap:Nat}{l:List Str}{k:Str}{h:Heap}(hR:ZAu str h a l)(hlen:Len l):Sv Tryz.prog 67 [.slice a l.length cap,str k] h (RetP fun v h'=>v=.bool (decide (k∈l))/\h'=h):=by
 refine ZAG Tryz.func67 rfl (by rw[Tryz.ntmps67];rfl) ?_;show Wc Tryz.prog ⟨67,18,none⟩ _ _ _ _ _;refine zy ?_;refine ZAQ (fun (j:Nat) m ds h'=>ds=[]/\h=h'/\j<=l.length/\k ∉ l.take j/\AllK m [(0,.slice a l.length cap),(1,str k),(5,i64 (j:Nat))]) (fun j=>l.length-j) 0 ?_ ?_
 ·exact⟨rfl,rfl,Nat.zero_le _,by simp,rfl,rfl,rfl,trivial⟩
 rintro j m ds h' ⟨rfl,rfl,hj,hno,hall⟩;refine Wc.le ?_ (Le.kn hall);clear hall;refine zy ?_;refine ZAL rfl rfl rfl rfl (ZAY rfl rfl) (fun hjl=>?_) (fun hjl=>?_);rotate_left
 ·refine zy ?_
  have:j=l.length:=by omega
  subst this;rw[List.take_length] at hno;exact ZAE (ZAF rfl ⟨by rw[decide_eq_false hno];rfl,rfl⟩)
 have hj':j<l.length:=by omega
 obtain⟨b,o,oa,rfl,hc⟩:=hR j hj';have htk:l.take (j+1)=l.take j++[l[j]]:=by rw[List.take_add_one,List.getElem?_eq_getElem hj'];rfl
 have hmem:l[j]∈l:=List.getElem_mem hj';generalize l[j]=x at *;refine zy ?_;refine ZAB rfl rfl rfl rfl (A_ix Und.h Tsz.h rfl rfl) ?_;refine zy ?_
 by_cases he:x=k
 ·subst he
  refine ZAB rfl rfl rfl rfl (A_tt rfl (ZAX rfl rfl)) ?_;refine zy ?_;exact ZAE (ZAF rfl ⟨by rw[decide_eq_true hmem];rfl,rfl⟩)
 ·refine ZAB rfl rfl rfl rfl (A_ff he (ZAX rfl rfl)) ?_
  refine zy ?_;refine⟨j+1,(by show l.length-(j+1)<l.length-j;omega),rfl,rfl,hj',?_,rfl,rfl,rfl,trivial⟩;rw[htk,List.mem_append,List.mem_singleton];rintro (q|q)
  ·exact hno q
  ·exact he q.symm
theorem ZDB {h0 h:Heap}{v:Value}{L:List Str}{y:Str}(hF:ZAA h0 h v 9 1 (L.map str) L.length)(hE0:Ext h0 h)(hlen:L.length<=1000000) :
  Sv Tryz.prog 115 [v,str y] h (RetP fun v' h'=>ZAA h0 h' v' 9 1 ((insU ltB y L).map str) (insU ltB y L).length/\Ext h h'/\(v'=v\/∀c,ZA6 v'=some c->h.nx<=c)):=by
 refine ZCo fun hw=>?_;obtain⟨aL,hv,-,hl⟩:=ZAA.list (enc:=str) hF;refine ZAG Tryz.func115 rfl (by rw[Tryz.ntmps115];rfl) ?_;show Wc Tryz.prog ⟨115,45,none⟩ _ _ _ _ _;subst hv;refine zy ?_
 refine Wc.mono (Q:=fun z m' ds' h'=>z=.exit 0/\ds'=[]/\h=h'/\∃i,i<=L.length/\(∀j (hj:j<L.length),j<i->ltB L[j] y)/\(∀h:i<L.length,¬ltB L[i] y) ∧
   AllK m' [(0,.slice aL L.length L.length),(1,str y),(5,i64 i)]) ?_ ?_
 ·refine ZAQ (fun (i:Nat) m ds h'=>ds=[]/\h=h'/\i<=L.length/\(∀j (hj:j<L.length),j<i->ltB L[j] y) ∧
    AllK m [(0,.slice aL L.length L.length),(1,str y),(5,i64 i)]) (fun i=>L.length-i) 0 ?_ ?_
  ·exact⟨rfl,rfl,Nat.zero_le _,(fun _ _ hj=>by omega),rfl,rfl,rfl,trivial⟩
  rintro i m ds h' ⟨rfl,rfl,hi,hlo,hall⟩;refine Wc.le ?_ (Le.kn hall);clear hall;refine zy ?_
  by_cases h6:i<L.length
  rotate_left
  ·refine ZAB rfl rfl rfl rfl (A_ff (by omega) (ZAY rfl rfl)) ?_
   refine zy ?_;exact⟨rfl,rfl,rfl,i,hi,hlo,(fun h=>absurd h h6),rfl,rfl,rfl,trivial⟩
  obtain⟨b,o,oa,rfl,hc⟩:=hl i h6;refine ZAB rfl rfl rfl rfl (A_tt (by omega) (ZAY rfl rfl)) ?_;refine zy ?_;refine ZAB rfl rfl rfl rfl (A_ix Und.h Tsz.h rfl rfl) ?_;refine zy ?_
  by_cases h7:ltB L[i] y
  ·refine ZAB rfl rfl rfl rfl (A_tt h7 (ZEW rfl rfl)) ?_
   refine zy ?_;refine⟨i+1,(by show L.length-(i+1)<L.length-i;omega),rfl,rfl,h6,?_,rfl,rfl,rfl,trivial⟩;intro j hj hlt
   rcases Nat.lt_or_ge j i with g|g
   ·exact hlo j hj g
   ·have:j=i:=by omega
    subst this;exact h7
  ·refine ZAB rfl rfl rfl rfl (A_ff h7 (ZEW rfl rfl)) ?_
   refine zy ?_;exact⟨rfl,rfl,rfl,i,hi,hlo,(fun _=>h7),rfl,rfl,rfl,trivial⟩
 rintro _ m _ _ ⟨rfl,rfl,rfl,i,hi,hlo,hhi,hall⟩
 show Wc _ _ _ _ _ _ _
 refine Wc.le ?_ (Le.kn hall);have hins:=ZMv hi hlo hhi;clear hlo hhi hall
 by_cases hsame:∃h:i<L.length,L[i]=y
 ·rw[if_pos hsame] at hins
  obtain⟨h6,he⟩:=hsame;obtain⟨b,o,oa,rfl,hc⟩:=hl i h6;rw[he] at hc;refine zy ?_;refine ZAB rfl rfl rfl rfl (A_tt (by omega) (ZAY rfl rfl)) ?_;refine zy ?_;refine ZAB rfl rfl rfl rfl (A_ix Und.h Tsz.h rfl rfl) ?_;refine zy ?_;refine ZAB rfl rfl rfl rfl (A_tt rfl (ZAX rfl rfl)) ?_;refine zy ?_;exact ZAE (ZAF rfl ⟨by rw[hins];exact hF,Ext.refl _,.inl rfl⟩)
 rw[if_neg hsame] at hins;have hti:(L.take i).length=i:=by rw[List.length_take];omega
 have hdi:(L.drop i).length=L.length-i:=List.length_drop;refine ZGO (Wc.mono (Q:=fun z m' ds' h'=>z=.normal/\ds'=[]/\h=h'/\AllK m' [(0,.slice aL L.length L.length),(1,str y),(5,i64 i)]) ?_ ?_)
 ·by_cases h6:i<L.length
  ·have hne:¬L[i]=y:=fun e=>hsame ⟨h6,e⟩
   obtain⟨b,o,oa,rfl,hc⟩:=hl i h6;refine zy ?_;refine ZAB rfl rfl rfl rfl (A_tt (by omega) (ZAY rfl rfl)) ?_;refine zy ?_;refine ZAB rfl rfl rfl rfl (A_ix Und.h Tsz.h rfl rfl) ?_;refine zy ?_;refine ZAB rfl rfl rfl rfl (A_ff hne (ZAX rfl rfl)) ?_;refine zy ?_;exact⟨rfl,rfl,rfl,rfl,rfl,rfl,trivial⟩
  ·refine zy ?_
   refine ZAB rfl rfl rfl rfl (A_ff (by omega) (ZAY rfl rfl)) ?_;refine zy ?_;exact⟨rfl,rfl,rfl,rfl,rfl,rfl,trivial⟩
 rintro _ m _ _ ⟨rfl,rfl,rfl,hall⟩
 show Wc _ _ _ _ _ _ _
 refine Wc.le ?_ (Le.kn hall);clear hall;obtain⟨w1,hz1,hA1⟩:=ZSt hF hi;obtain⟨w2,hz2,hA2⟩:=ZPg hF hi;have hEa0:=Ext.add hw (.cells [] 9 false);have hEa:=hEa0.trans (Ext.rsv (Heap.add h (.cells [] 9 false)));have hOa0:Own h (Heap.add h (.cells [] 9 false)) [slI h (.slice (some ⟨h.nx,0,none⟩) 0 0) 9 1 [] 0]:=(Own.nil h h).newSl hw (Nat.le_refl _) hEa0 (ZAA.lit Heap.get_add_same rfl (Nat.le_refl _));have hne:=hOa0.ne (hw.add _) (Nat.le_refl (h.nx+1));refine zy ?_;refine ZAS hmix [0,0,0,6,15,0,32,127,0,0,768,2047,4095] [0,1,2,3,5,6,8,9,10] (some 4) [([],(some 7)),([],(some 11)),([],(some 12)),([],none)] (by kernel_rfl) (by kernel_rfl) ?_
 refine ZCy (nk:=.sl _ _) rfl rfl rfl rfl rfl (fun _ _ hs=>N_bs hs Und.h Tsz.h Zr.h rfl rfl rfl rfl rfl) ?_;refine z_m ?_;refine z_m ?_;refine ZAD rfl rfl rfl rfl rfl (fun _=>hA1 rfl rfl) ?_;refine z_m ?_;refine ZCy (nk:=.sl _ _) rfl rfl rfl rfl rfl (fun _ _ hs=>N_bs hs Und.h Tsz.h Zr.h rfl rfl rfl rfl rfl) ?_;refine z_m ?_;refine z_m ?_;refine ZAD rfl rfl rfl rfl rfl (fun _=>hA2 rfl rfl) ?_;refine ZAJ (h1:=(rsv (Heap.add h _))) [0,1,2,3] (by kernel_rfl) rfl (ZAC rfl) rfl rfl (kF (kF (kF (kF (kF (dF (dF (dF (dF nF))))))))) (ZBM (ZGI (n1:=h.nx+1) (by':=16) (sz:=1) (k:=i) (n:=0) (l:=(L.take i).map str) rfl hw hEa rfl rfl rfl rfl Und.h inferInstance rfl rfl (hOa0.ext (Ext.rsv _)) (hz1 _ h0 (hF.ext hEa)) (by rw[List.length_map,hti,Nat.mul_one]) (ZGx _) (by omega) (by omega) hne (Nat.lt_succ_self _) (fun v12 h12 hO13 hE12 hne12 hn12 hw12=>?_)))
 have hU12:=Upd.mk' h12 (h.nx+1) (.cells [str y] 9 false);have hO13':=hO13.other (.cells [str y] 9 false) hne12;have hE12':=hU12.ext hE12 hw (Nat.le_succ _);rw[List.nil_append,Nat.zero_add] at hO13';refine ZAJ (h1:=(h12.set (h.nx+1) (.cells [str y] 9 false))) [0,1,2,3,4,5,6] (by kernel_rfl) rfl (by refine ZAp (i:=10) rfl rfl rfl rfl rfl (fun _=>hA2 rfl rfl) rfl ?_;refine t_m 9 ?_;refine t_m 8 ?_;refine ZJU (i:=6) (nk:=.sl _ _) rfl rfl rfl rfl rfl (fun _ _ hs=>N_bs hs Und.h Tsz.h Zr.h rfl rfl rfl rfl rfl) rfl ?_;refine t_m 5 ?_;exact ZAC rfl) rfl rfl (kF (kF (kF (dF (dF nF))))) (ZBM (ZBE (by':=16) (sz:=1) (k:=1) (n:=i) (l:=[str y]) rfl hw hE12' rfl rfl rfl rfl Und.h inferInstance rfl rfl hO13' ((ZAA.lit (h0:=h) (n:=1) (sz:=1) hU12.at' rfl (Nat.le_succ _)).src (dd:=.slice 9) Und.h (by intro k;simp)) rfl rfl (by omega) (by omega) (fun v14 h14 hO15 hE14 hw14=>?_)))
 refine ZAJ (h1:=h14) [0,1,2,3,4,5,6,7,8,9,10] (by kernel_rfl) rfl (by refine ZAp (i:=10) rfl rfl rfl rfl rfl (fun _=>hA2 rfl rfl) rfl ?_;refine t_m 9 ?_;refine t_m 8 ?_;exact ZAC rfl) rfl rfl (dF (dF (dF nF))) (ZBM (ZBE (by':=16) (sz:=1) (k:=L.length-i) (n:=i+1) (l:=(L.drop i).map str) rfl hw hE14 rfl rfl rfl rfl Und.h inferInstance rfl rfl hO15 (hz2 _ h0 (hF.ext hE14)) (by rw[List.length_map,hdi,Nat.mul_one]) (ZGx _) (by omega) (by omega) (fun v16 h16 hO17 hE16 hw16=>?_)));refine ZAJ (h1:=h16) [0,1,2,3,4,5,6,7,8,9,10,11] (by kernel_rfl) rfl (ZAC rfl) rfl rfl nF (ZDe rfl rfl (ZA8 rfl) ?_);refine ZAV (h1:=h16) (ZAC rfl) rfl ?_
 refine zy ?_;have hF17:ZAA h h16 _ _ _ _ _:=hO17.p1;refine ZAE (ZAF rfl ⟨?_,hE16,.inr fun c hc=>?_⟩);rotate_left
 ·rcases hF17 with ⟨e,-,-⟩|⟨b',sp,op,e,-,-,hb,-⟩
  ·rw[e] at hc;cases hc
  ·rw[e] at hc;cases hc;exact hb
 rw[hins];have e1:(L.take i++y::L.drop i).map str=(L.take i).map str++[str y]++(L.drop i).map str:=by rw[List.map_append,List.map_cons,List.append_assoc];rfl
 have e2:(L.take i++y::L.drop i).length=i+1+(L.length-i):=by rw[List.length_append,List.length_cons,hti,hdi];omega
 rw[e1,e2];exact hF17.base hE0.2.1
def ZH5 (p:Str×Str)(k:Str):List Str:=(if p.1=k then [p.2] else [])++if p.2=k then [p.1] else []
def ZGf (x:WkR)(k:Str):List Str:=if x.kind=1 then ZH5 (tieI x) k else if x.kind=2 then ZH5 (tieS x) k else []
def adjN (s:List WkR)(k:Str):List Str:=s.flatMap fun x=>ZGf x k
theorem ZQc (s:List WkR)(x:WkR)(k:Str):adjN (s++[x]) k=adjN s k++ZGf x k:=by
 unfold adjN;rw[List.flatMap_append,List.flatMap_singleton]
theorem ZJr {p:Str×Str}{k z:Str}:z∈ZH5 p k ↔ p=(k,z)\/p=(z,k):=by
 obtain⟨a,b⟩:=p;unfold ZH5;simp only[List.mem_append,Prod.mk.injEq]
 constructor
 ·rintro (h|h)
  ·split at h
   ·rename_i e;exact .inl ⟨e,(List.mem_singleton.1 h).symm⟩
   ·exact absurd h List.not_mem_nil
  ·split at h
   ·rename_i e;exact .inr ⟨(List.mem_singleton.1 h).symm,e⟩
   ·exact absurd h List.not_mem_nil
 ·rintro (⟨rfl,rfl⟩|⟨rfl,rfl⟩)
  ·left;simp
  ·right;simp
theorem ZQg {s:List WkR}{k z:Str}:z∈adjN s k ↔ (k,z)∈edgW s\/(z,k)∈edgW s:=by
 have hE:∀p,p∈edgW s ↔ ∃x∈s,(x.kind=1/\tieI x=p)\/(x.kind=2/\tieS x=p):=fun p=>by
  unfold edgW;simp only[List.mem_append,List.mem_map,ZC8,List.mem_singleton]
  constructor
  ·rintro (⟨x,⟨h1,h2⟩,h3⟩|⟨x,⟨h1,h2⟩,h3⟩)
   ·exact⟨x,h1,.inl ⟨h2,h3⟩⟩
   ·exact⟨x,h1,.inr ⟨h2,h3⟩⟩
  ·rintro⟨x,h1,⟨h2,h3⟩|⟨h2,h3⟩⟩
   ·exact .inl ⟨x,⟨h1,h2⟩,h3⟩
   ·exact .inr ⟨x,⟨h1,h2⟩,h3⟩
 have h1:∀x,z∈ZGf x k ↔ (x.kind=1/\(tieI x=(k,z)\/tieI x=(z,k)))\/(x.kind=2/\(tieS x=(k,z)\/tieS x=(z,k))):=fun x=>by
  unfold ZGf
  split
  ·rename_i h;rw[ZJr];constructor
   ·exact fun q=>.inl ⟨h,q⟩
   ·rintro (⟨-,q⟩|⟨q,-⟩)
    ·exact q
    ·omega
  ·rename_i h;split
   ·rename_i h2;rw[ZJr];constructor
    ·exact fun q=>.inr ⟨h2,q⟩
    ·rintro (⟨q,-⟩|⟨-,q⟩)
     ·exact absurd q h
     ·exact q
   ·rename_i h2;constructor
    ·exact fun q=>absurd q List.not_mem_nil
    ·rintro (⟨q,-⟩|⟨q,-⟩)
     ·exact absurd q h
     ·exact absurd q h2
 unfold adjN;rw[List.mem_flatMap,hE,hE]
 constructor
 ·rintro⟨x,hx,hz⟩
  rcases (h1 x).1 hz with ⟨q,e|e⟩|⟨q,e|e⟩
  ·exact .inl ⟨x,hx,.inl ⟨q,e⟩⟩
  ·exact .inr ⟨x,hx,.inl ⟨q,e⟩⟩
  ·exact .inl ⟨x,hx,.inr ⟨q,e⟩⟩
  ·exact .inr ⟨x,hx,.inr ⟨q,e⟩⟩
 ·rintro (⟨x,hx,⟨q,e⟩|⟨q,e⟩⟩|⟨x,hx,⟨q,e⟩|⟨q,e⟩⟩)
  ·exact⟨x,hx,(h1 x).2 (.inl ⟨q,.inl e⟩)⟩
  ·exact⟨x,hx,(h1 x).2 (.inr ⟨q,.inl e⟩)⟩
  ·exact⟨x,hx,(h1 x).2 (.inl ⟨q,.inr e⟩)⟩
  ·exact⟨x,hx,(h1 x).2 (.inr ⟨q,.inr e⟩)⟩
theorem ZRS (s:List WkR)(k:Str):mrgU ltB (adjN s k)=nxtW s k:=ZP5 ZAP fun e=>by rw[ZQg,ZNN]
theorem ZRV (s:List WkR)(k:Str):(adjN s k).length<=2*s.length:=by
 induction s with
 | nil=>exact Nat.le_refl _
 | cons x s ih =>
  unfold adjN at ih ⊢;rw[List.flatMap_cons,List.length_append,List.length_cons]
  have hp:∀p:Str×Str,(ZH5 p k).length<=2:=fun p=>by
   unfold ZH5;rw[List.length_append]
   have h1:(if p.1=k then [p.2] else []).length<=1:=by split <;> simp
   have h2:(if p.2=k then [p.1] else []).length<=1:=by split <;> simp
   omega
  have:(ZGf x k).length<=2:=by
   unfold ZGf
   split
   ·exact hp _
   ·split
    ·exact hp _
    ·exact Nat.zero_le _
  omega
theorem ZNW (A:List Str)(p:Str×Str)(k:Str):mrgU ltB (A++ZH5 p k)=if p.2=k then insU ltB p.1 (if p.1=k then insU ltB p.2 (mrgU ltB A) else mrgU ltB A) else if p.1=k then insU ltB p.2 (mrgU ltB A) else mrgU ltB A:=by
 unfold ZH5
 by_cases e1:p.1=k <;> by_cases e2:p.2=k <;> simp only[e1,e2,if_true,if_false,List.append_nil,List.nil_append,<-List.append_assoc,ZBK]
theorem ZFF (x:Str)(L:List Str):(insU ltB x L).length<=L.length+1:=by
 induction L with
 | nil=>exact Nat.le_refl _
 | cons y L ih =>
  rw[insU]
  split
  ·simp only[List.length_cons];omega
  ·split <;> simp only[List.length_cons] <;> omega
set_option maxHeartbeats 2000000 in
theorem ZSV {a:Option Addr}{cap:Nat}{s:List WkR}{k:Str}{h:Heap}(hR:ZC0 h a s)(hf:∀x∈s,x.Fit)(hlen:s.length<=100000) :
  Sv Tryz.prog 116 [.slice a s.length cap,str k] h (RetP fun v h'=>ZAA h h' v 9 1 ((nxtW s k).map str) (nxtW s k).length/\Ext h h'):=by
 rw[<-ZRS];refine ZAG Tryz.func116 rfl (by rw[Tryz.ntmps116];rfl) ?_;show Wc Tryz.prog ⟨116,60,none⟩ _ _ _ _ _;refine zy ?_
 refine ZAQ (fun (st:Nat×Value) m ds h'=>ds=[]/\Ext h h'/\st.1<=s.length/\ZAA h h' st.2 9 1 ((mrgU ltB (adjN (s.take st.1) k)).map str) (mrgU ltB (adjN (s.take st.1) k)).length ∧
   AllK m [(0,.slice a s.length cap),(1,str k),(5,st.2),(6,i64 st.1)]) (fun st=>s.length-st.1) (0,.slice none 0 0) ?_ ?_
 ·exact⟨rfl,Ext.refl _,Nat.zero_le _,ZAA.nil _ _ _ _,rfl,rfl,rfl,rfl,trivial⟩
 rintro⟨j,v⟩ m ds h1 ⟨rfl,hE1,hj,hF1,hall⟩;simp only at hj hF1 hall;refine Wc.le ?_ (Le.kn hall);clear hall;refine zy ?_;refine ZAL rfl rfl rfl rfl (ZAY rfl rfl) (fun hjl=>?_) (fun hjl=>?_);rotate_left
 ·have:j=s.length:=by omega
  subst this;rw[List.take_length] at hF1;refine zy ?_;exact ZAE (ZAF rfl ⟨hF1,hE1⟩)
 have hj':j<s.length:=by omega
 have htk:adjN (s.take (j+1)) k=adjN (s.take j) k++ZGf s[j] k:=by
  rw[List.take_add_one,List.getElem?_eq_getElem hj'];exact ZQc _ _ _
 have hln:(mrgU ltB (adjN (s.take j) k)).length<=200000:=Nat.le_trans (ZBp ZAP _) (Nat.le_trans (ZRV _ _) (by rw[List.length_take];omega));have hxf:=hf _ (List.getElem_mem hj');obtain⟨b,o,oa,rfl,row,hrow0,hx⟩:=hR j hj';have hrow:=hE1.row hrow0;have ex:row=rowW s[j]:=hx;clear hx hrow0;generalize s[j]=x at *;subst ex;have hc4:ZAa h1 b (o+j*6+4)=some (str x.a):=ZAN (k:=4) hrow rfl;have hc5:ZAa h1 b (o+j*6+5)=some (str x.b):=ZAN (k:=5) hrow rfl;have hc3:ZAa h1 b (o+j*6+3)=some (i64 x.kind):=ZAN (k:=3) hrow rfl;refine zy ?_;refine ZAS hmix [0,0,3,7,15,0,0,96,224,480,31,2047] [0,1,2,3,4,5,6,7,8,9] (some 10) [([],(some 11)),([],none)] (by kernel_rfl) (by kernel_rfl) ?_
 refine z_m ?_;refine z_m ?_;refine ZAD rfl rfl rfl rfl rfl (fun _=>A_ix (k:=j) Und.h Tsz.h rfl rfl) ?_;refine z_f ?_;refine z_l ?_;refine z_m ?_;refine z_m ?_;refine ZAD rfl rfl rfl rfl rfl (fun _=>A_ix (k:=j) Und.h Tsz.h rfl rfl) ?_;refine z_f ?_;refine z_l ?_;refine ZAJ [0,1,2,3,4] (by kernel_rfl) rfl (ZAC rfl) rfl nb (kF (kF (kF (kF (kF (dF (dF (dF (dF (dF nF)))))))))) (ZDe rfl rfl (ZA8 rfl) ?_);refine ZAJ [0,1,2,3,4,5,6,7,8,9,10] (by kernel_rfl) rfl (by refine t_l 9 ?_;refine t_f 8 ?_;refine ZAp (i:=7) rfl rfl rfl rfl rfl (fun _=>A_ix (k:=j) Und.h Tsz.h rfl rfl) rfl ?_;refine t_m 6 ?_;refine t_m 5 ?_;exact ZAC rfl) rfl nb (dF (dF (dF (dF (dF nF))))) (ZDe rfl rfl (ZA8 rfl) ?_)
 refine ZAV (ZAC rfl) nb' ?_;refine zy ?_;refine ZAB rfl rfl rfl rfl (A_ix Und.h Tsz.h rfl rfl) ?_;refine zy ?_
 by_cases c1:x.kind=1
 ·have ha:ZGf x k=ZH5 (tieI x) k:=if_pos c1
  refine ZAB rfl rfl rfl rfl (A_tt c1 (ZAd rfl rfl)) ?_;refine zy ?_;refine ZAB rfl rfl rfl rfl (ZMq rfl rfl (by have:=hxf.a;show 1+x.a.length<_;omega)) ?_;refine zy ?_;refine ZAB rfl rfl rfl rfl (A_ix Und.h Tsz.h rfl rfl) ?_;refine zy ?_;refine ZAB rfl rfl rfl rfl (A_ff (fun q=>q c1) (ZBF rfl rfl)) ?_;refine zy ?_;have hm:=ZNW (adjN (s.take j) k) (tieI x) k;rw[<-ha,<-htk] at hm
  by_cases e1:((tieI x)).1=k
  ·rw[if_pos e1] at hm
   refine ZAB rfl rfl rfl rfl (A_tt e1 (ZAX rfl rfl)) ?_;refine zy ?_;refine ZAI rfl rfl rfl rfl rfl Bod.h rfl rfl (ZDB (y:=x.b) hF1 hE1 (by omega)) ?_;rintro v2 h2 ⟨hF2,hE2,-⟩;have hl2:=ZFF x.b (mrgU ltB (adjN (s.take j) k));have hE12:=hE1.trans hE2;refine zy ?_
   by_cases e2:((tieI x)).2=k
   ·rw[if_pos e2] at hm
    refine ZAB rfl rfl rfl rfl (A_tt e2 (ZAX rfl rfl)) ?_;refine zy ?_;refine ZAI rfl rfl rfl rfl rfl Bod.h rfl rfl (ZDB (y:=(35::x.a)) hF2 hE12 (by omega)) ?_;rintro v3 h3 ⟨hF3,hE3,-⟩;refine zy ?_;exact⟨(j+1,v3),(by show s.length-(j+1)<s.length-j;omega),rfl,hE12.trans hE3,hj',(by simp only;rw[hm];exact hF3),rfl,rfl,rfl,rfl,trivial⟩
   ·rw[if_neg e2] at hm
    refine ZAB rfl rfl rfl rfl (A_ff e2 (ZAX rfl rfl)) ?_;refine zy ?_;exact⟨(j+1,v2),(by show s.length-(j+1)<s.length-j;omega),rfl,hE12,hj',(by simp only;rw[hm];exact hF2),rfl,rfl,rfl,rfl,trivial⟩
  ·rw[if_neg e1] at hm
   refine ZAB rfl rfl rfl rfl (A_ff e1 (ZAX rfl rfl)) ?_;refine zy ?_
   by_cases e2:((tieI x)).2=k
   ·rw[if_pos e2] at hm
    refine ZAB rfl rfl rfl rfl (A_tt e2 (ZAX rfl rfl)) ?_;refine zy ?_;refine ZAI rfl rfl rfl rfl rfl Bod.h rfl rfl (ZDB (y:=(35::x.a)) hF1 hE1 (by omega)) ?_;rintro v3 h3 ⟨hF3,hE3,-⟩;refine zy ?_;exact⟨(j+1,v3),(by show s.length-(j+1)<s.length-j;omega),rfl,hE1.trans hE3,hj',(by simp only;rw[hm];exact hF3),rfl,rfl,rfl,rfl,trivial⟩
   ·rw[if_neg e2] at hm
    refine ZAB rfl rfl rfl rfl (A_ff e2 (ZAX rfl rfl)) ?_;refine zy ?_;exact⟨(j+1,_),(by show s.length-(j+1)<s.length-j;omega),rfl,hE1,hj',(by simp only;rw[hm];exact hF1),rfl,rfl,rfl,rfl,trivial⟩
 refine ZAB rfl rfl rfl rfl (A_ff c1 (ZAd rfl rfl)) ?_;refine zy ?_;refine ZAB rfl rfl rfl rfl (A_ix Und.h Tsz.h rfl rfl) ?_;refine zy ?_;refine ZAB rfl rfl rfl rfl (A_tt c1 (ZBF rfl rfl)) ?_;refine zy ?_;refine ZAB rfl rfl rfl rfl (A_ix Und.h Tsz.h rfl rfl) ?_;refine zy ?_
 by_cases c2:x.kind=2
 ·have ha:ZGf x k=ZH5 (tieS x) k:=by unfold ZGf;rw[if_neg c1,if_pos c2]
  refine ZAB rfl rfl rfl rfl (A_ff (fun q=>q c2) (ZBF rfl rfl)) ?_;refine zy ?_;have hm:=ZNW (adjN (s.take j) k) (tieS x) k;rw[<-ha,<-htk] at hm
  by_cases e1:((tieS x)).1=k
  ·rw[if_pos e1] at hm
   refine ZAB rfl rfl rfl rfl (A_tt e1 (ZAX rfl rfl)) ?_;refine zy ?_;refine ZAI rfl rfl rfl rfl rfl Bod.h rfl rfl (ZDB (y:=x.b) hF1 hE1 (by omega)) ?_;rintro v2 h2 ⟨hF2,hE2,-⟩;have hl2:=ZFF x.b (mrgU ltB (adjN (s.take j) k));have hE12:=hE1.trans hE2;refine zy ?_
   by_cases e2:((tieS x)).2=k
   ·rw[if_pos e2] at hm
    refine ZAB rfl rfl rfl rfl (A_tt e2 (ZAX rfl rfl)) ?_;refine zy ?_;refine ZAI rfl rfl rfl rfl rfl Bod.h rfl rfl (ZDB (y:=x.a) hF2 hE12 (by omega)) ?_;rintro v3 h3 ⟨hF3,hE3,-⟩;refine zy ?_;exact⟨(j+1,v3),(by show s.length-(j+1)<s.length-j;omega),rfl,hE12.trans hE3,hj',(by simp only;rw[hm];exact hF3),rfl,rfl,rfl,rfl,trivial⟩
   ·rw[if_neg e2] at hm
    refine ZAB rfl rfl rfl rfl (A_ff e2 (ZAX rfl rfl)) ?_;refine zy ?_;exact⟨(j+1,v2),(by show s.length-(j+1)<s.length-j;omega),rfl,hE12,hj',(by simp only;rw[hm];exact hF2),rfl,rfl,rfl,rfl,trivial⟩
  ·rw[if_neg e1] at hm
   refine ZAB rfl rfl rfl rfl (A_ff e1 (ZAX rfl rfl)) ?_;refine zy ?_
   by_cases e2:((tieS x)).2=k
   ·rw[if_pos e2] at hm
    refine ZAB rfl rfl rfl rfl (A_tt e2 (ZAX rfl rfl)) ?_;refine zy ?_;refine ZAI rfl rfl rfl rfl rfl Bod.h rfl rfl (ZDB (y:=x.a) hF1 hE1 (by omega)) ?_;rintro v3 h3 ⟨hF3,hE3,-⟩;refine zy ?_;exact⟨(j+1,v3),(by show s.length-(j+1)<s.length-j;omega),rfl,hE1.trans hE3,hj',(by simp only;rw[hm];exact hF3),rfl,rfl,rfl,rfl,trivial⟩
   ·rw[if_neg e2] at hm
    refine ZAB rfl rfl rfl rfl (A_ff e2 (ZAX rfl rfl)) ?_;refine zy ?_;exact⟨(j+1,_),(by show s.length-(j+1)<s.length-j;omega),rfl,hE1,hj',(by simp only;rw[hm];exact hF1),rfl,rfl,rfl,rfl,trivial⟩
 have ha:ZGf x k=[]:=by unfold ZGf;rw[if_neg c1,if_neg c2]
 rw[ha,List.append_nil] at htk;refine ZAB rfl rfl rfl rfl (A_tt c2 (ZBF rfl rfl)) ?_;refine zy ?_;exact⟨(j+1,_),(by show s.length-(j+1)<s.length-j;omega),rfl,hE1,hj',(by simp only;rw[htk];exact hF1),rfl,rfl,rfl,rfl,trivial⟩
def namA (x:WkR):List Str:=if x.kind=2\/x.kind=3\/x.kind=4 then [x.a] else []
def namB (x:WkR):List Str:=if x.kind=2\/x.kind=3\/x.kind=1 then [x.b] else []
def namN (s:List WkR):List Str:=s.flatMap fun x=>namA x++namB x
theorem ZOn (s:List WkR)(x:WkR):namN (s++[x])=namN s++namA x++namB x:=by
 unfold namN;rw[List.flatMap_append,List.flatMap_singleton,List.append_assoc]
theorem ZM8 (s:List WkR):(namN s).length<=2*s.length:=by
 induction s with
 | nil=>exact Nat.le_refl _
 | cons x s ih =>
  unfold namN at ih ⊢;rw[List.flatMap_cons,List.length_append,List.length_append,List.length_cons];have h1:(namA x).length<=1:=by unfold namA;split <;> simp
  have h2:(namB x).length<=1:=by unfold namB;split <;> simp
  omega
theorem ZRB {s:List WkR}(hg:∀x∈s,ZAw x=0)(k:Str):k∈namN s ↔ ZCf s k=true:=by
 have hn:ZCf s k=true ↔ k∈nodW s/\ZBc k=false:=by
  unfold ZCf ZBc;rw[Bool.and_eq_true,decide_eq_true_iff,Bool.not_eq_true']
 rw[hn];have hm:k∈namN s ↔ ∃x∈s,(k=x.a/\(x.kind=2\/x.kind=3\/x.kind=4))\/(k=x.b/\(x.kind=2\/x.kind=3\/x.kind=1)):=by
  unfold namN;rw[List.mem_flatMap]
  constructor
  ·rintro⟨x,hx,h⟩
   rcases List.mem_append.1 h with h|h
   ·unfold namA at h
    split at h
    ·rename_i q;exact⟨x,hx,.inl ⟨List.mem_singleton.1 h,q⟩⟩
    ·exact absurd h List.not_mem_nil
   ·unfold namB at h
    split at h
    ·rename_i q;exact⟨x,hx,.inr ⟨List.mem_singleton.1 h,q⟩⟩
    ·exact absurd h List.not_mem_nil
  ·rintro⟨x,hx,⟨rfl,q⟩|⟨rfl,q⟩⟩
   ·exact⟨x,hx,List.mem_append_left _ (by unfold namA;rw[if_pos q];simp)⟩
   ·exact⟨x,hx,List.mem_append_right _ (by unfold namB;rw[if_pos q];simp)⟩
 rw[hm];have hnod:k∈nodW s ↔ ∃x∈s,(x.kind=1/\(k=35::x.a\/k=x.b))\/(x.kind=2/\(k=x.a\/k=x.b))\/(x.kind=3/\(k=x.a\/k=x.b))\/(x.kind=4/\k=x.a):=by
  unfold nodW edgW;simp only[List.mem_append,ZEP,List.mem_map,ZC8,List.mem_singleton]
  constructor
  ·rintro ((⟨e,⟨x,⟨hx,hk⟩,rfl⟩|⟨x,⟨hx,hk⟩,rfl⟩,h⟩|⟨e,⟨x,⟨hx,hk⟩,rfl⟩,h⟩)|⟨x,⟨hx,hk⟩,h⟩)
   ·exact⟨x,hx,.inl ⟨hk,h⟩⟩
   ·exact⟨x,hx,.inr (.inl ⟨hk,h⟩)⟩
   ·exact⟨x,hx,.inr (.inr (.inl ⟨hk,h⟩))⟩
   ·exact⟨x,hx,.inr (.inr (.inr ⟨hk,h.symm⟩))⟩
  ·rintro⟨x,hx,⟨hk,h⟩|⟨hk,h⟩|⟨hk,h⟩|⟨hk,h⟩⟩
   ·exact .inl (.inl ⟨tieI x,.inl ⟨x,⟨hx,hk⟩,rfl⟩,h⟩)
   ·exact .inl (.inl ⟨tieS x,.inr ⟨x,⟨hx,hk⟩,rfl⟩,h⟩)
   ·exact .inl (.inr ⟨tieS x,⟨x,⟨hx,hk⟩,rfl⟩,h⟩)
   ·exact .inr ⟨x,⟨hx,hk⟩,h.symm⟩
 rw[hnod]
 constructor
 ·rintro⟨x,hx,⟨rfl,q⟩|⟨rfl,q⟩⟩
  ·have hna:=(ZCb (hg x hx)).2.1
   refine⟨⟨x,hx,?_⟩,ZFV hna⟩
   rcases q with q|q|q
   ·exact .inr (.inl ⟨q,.inl rfl⟩)
   ·exact .inr (.inr (.inl ⟨q,.inl rfl⟩))
   ·exact .inr (.inr (.inr ⟨q,rfl⟩))
  ·have hnb:=(ZCb (hg x hx)).2.2.1 (by rcases q with q|q|q <;> rw[q] <;> decide) (by rcases q with q|q|q <;> rw[q] <;> decide)
   refine⟨⟨x,hx,?_⟩,ZFV hnb⟩
   rcases q with q|q|q
   ·exact .inr (.inl ⟨q,.inr rfl⟩)
   ·exact .inr (.inr (.inl ⟨q,.inr rfl⟩))
   ·exact .inl ⟨q,.inr rfl⟩
 ·rintro⟨⟨x,hx,⟨hk,rfl|rfl⟩|⟨hk,rfl|rfl⟩|⟨hk,rfl|rfl⟩|⟨hk,rfl⟩⟩,hh⟩
  ·unfold ZBc at hh
   simp at hh
  ·exact⟨x,hx,.inr ⟨rfl,.inr (.inr hk)⟩⟩
  ·exact⟨x,hx,.inl ⟨rfl,.inl hk⟩⟩
  ·exact⟨x,hx,.inr ⟨rfl,.inl hk⟩⟩
  ·exact⟨x,hx,.inl ⟨rfl,.inr (.inl hk)⟩⟩
  ·exact⟨x,hx,.inr ⟨rfl,.inr (.inl hk)⟩⟩
  ·exact⟨x,hx,.inl ⟨rfl,.inr (.inr hk)⟩⟩
set_option maxHeartbeats 2000000 in
theorem ZLx {a:Option Addr}{cap:Nat}{s:List WkR}{h:Heap}(hR:ZC0 h a s)(hlen:s.length<=100000) :
  Sv Tryz.prog 66 [.slice a s.length cap] h (RetP fun v h'=>ZAA h h' v 9 1 ((mrgU ltB (namN s)).map str) (mrgU ltB (namN s)).length/\Ext h h'):=by
 refine ZAG Tryz.func66 rfl (by rw[Tryz.ntmps66];rfl) ?_;show Wc Tryz.prog ⟨66,52,none⟩ _ _ _ _ _;refine zy ?_
 refine ZAQ (fun (st:Nat×Value) m ds h'=>ds=[]/\Ext h h'/\st.1<=s.length/\ZAA h h' st.2 9 1 ((mrgU ltB (namN (s.take st.1))).map str) (mrgU ltB (namN (s.take st.1))).length ∧
   AllK m [(0,.slice a s.length cap),(3,st.2),(4,i64 st.1)]) (fun st=>s.length-st.1) (0,.slice none 0 0) ?_ ?_
 ·exact⟨rfl,Ext.refl _,Nat.zero_le _,ZAA.nil _ _ _ _,rfl,rfl,rfl,trivial⟩
 rintro⟨j,v⟩ m ds h1 ⟨rfl,hE1,hj,hF1,hall⟩;simp only at hj hF1 hall;refine Wc.le ?_ (Le.kn hall);clear hall;refine zy ?_;refine ZAL rfl rfl rfl rfl (ZAY rfl rfl) (fun hjl=>?_) (fun hjl=>?_);rotate_left
 ·have:j=s.length:=by omega
  subst this;rw[List.take_length] at hF1;refine zy ?_;exact ZAE (ZAF rfl ⟨hF1,hE1⟩)
 have hj':j<s.length:=by omega
 have htk:namN (s.take (j+1))=namN (s.take j)++namA s[j]++namB s[j]:=by
  rw[List.take_add_one,List.getElem?_eq_getElem hj'];exact ZOn _ _
 have hln:(mrgU ltB (namN (s.take j))).length<=200000:=Nat.le_trans (ZBp ZAP _) (Nat.le_trans (ZM8 _) (by rw[List.length_take];omega));obtain⟨b,o,oa,rfl,row,hrow0,hx⟩:=hR j hj';have hrow:=hE1.row hrow0;have ex:row=rowW s[j]:=hx;clear hx;generalize s[j]=x at *;subst ex;have hc4:ZAa h1 b (o+j*6+4)=some (str x.a):=ZAN (k:=4) hrow rfl;have hc5:ZAa h1 b (o+j*6+5)=some (str x.b):=ZAN (k:=5) hrow rfl;have hc3:ZAa h1 b (o+j*6+3)=some (i64 x.kind):=ZAN (k:=3) hrow rfl;refine zy ?_;refine ZAB rfl rfl rfl rfl (A_ix Und.h Tsz.h rfl rfl) ?_;refine zy ?_
 by_cases hn2:x.kind=2
 ·have hk:=hn2
  have hA:namA x=[x.a]:=by unfold namA;rw[if_pos (by rw[hk];decide)]
  have hB:namB x=[x.b]:=by unfold namB;rw[if_pos (by rw[hk];decide)]
  rw[hA,hB] at htk;refine ZAB rfl rfl rfl rfl (A_tt hk (ZAd rfl rfl)) ?_;refine zy ?_;refine ZAB rfl rfl rfl rfl (A_ix Und.h Tsz.h rfl rfl) ?_;refine zy ?_;refine ZAI rfl rfl rfl rfl rfl Bod.h rfl rfl (ZDB (y:=x.a) hF1 hE1 (by omega)) ?_;rintro v2 h2 ⟨hF2,hE2,-⟩;rw[<-ZBK] at hF2;have hl2:(mrgU ltB (namN (s.take j)++[x.a])).length<=300000:=by
   rw[ZBK];have:=ZFF x.a (mrgU ltB (namN (s.take j)));omega
  have hE12:=hE1.trans hE2;have hc5':ZAa h2 b (o+j*6+5)=some (str x.b):=ZAN (k:=5) (hE12.row hrow0) rfl;refine zy ?_;refine ZAB rfl rfl rfl rfl (A_tt hk (ZAd rfl rfl)) ?_;refine zy ?_;refine ZAB rfl rfl rfl rfl (A_ix Und.h Tsz.h rfl rfl) ?_;refine zy ?_;refine ZAI rfl rfl rfl rfl rfl Bod.h rfl rfl (ZDB (y:=x.b) hF2 hE12 (by omega)) ?_;rintro v3 h3 ⟨hF3,hE3,-⟩;rw[<-ZBK] at hF3;refine zy ?_;exact⟨(j+1,v3),(by show s.length-(j+1)<s.length-j;omega),rfl,(hE12.trans hE3),hj',(by simp only;rw[htk];exact hF3),rfl,rfl,rfl,trivial⟩
 by_cases hn3:x.kind=3
 ·have hk:=hn3
  have hA:namA x=[x.a]:=by unfold namA;rw[if_pos (by rw[hk];decide)]
  have hB:namB x=[x.b]:=by unfold namB;rw[if_pos (by rw[hk];decide)]
  rw[hA,hB] at htk;refine ZAB rfl rfl rfl rfl (A_ff (by rw[hk];decide) (ZAd rfl rfl)) ?_;refine zy ?_;refine ZAB rfl rfl rfl rfl (A_tt hk (ZAd rfl rfl)) ?_;refine zy ?_;refine ZAB rfl rfl rfl rfl (A_ix Und.h Tsz.h rfl rfl) ?_;refine zy ?_;refine ZAI rfl rfl rfl rfl rfl Bod.h rfl rfl (ZDB (y:=x.a) hF1 hE1 (by omega)) ?_;rintro v2 h2 ⟨hF2,hE2,-⟩;rw[<-ZBK] at hF2;have hl2:(mrgU ltB (namN (s.take j)++[x.a])).length<=300000:=by
   rw[ZBK];have:=ZFF x.a (mrgU ltB (namN (s.take j)));omega
  have hE12:=hE1.trans hE2;have hc5':ZAa h2 b (o+j*6+5)=some (str x.b):=ZAN (k:=5) (hE12.row hrow0) rfl;refine zy ?_;refine ZAB rfl rfl rfl rfl (A_ff (by rw[hk];decide) (ZAd rfl rfl)) ?_;refine zy ?_;refine ZAB rfl rfl rfl rfl (A_tt hk (ZAd rfl rfl)) ?_;refine zy ?_;refine ZAB rfl rfl rfl rfl (A_ix Und.h Tsz.h rfl rfl) ?_;refine zy ?_;refine ZAI rfl rfl rfl rfl rfl Bod.h rfl rfl (ZDB (y:=x.b) hF2 hE12 (by omega)) ?_;rintro v3 h3 ⟨hF3,hE3,-⟩;rw[<-ZBK] at hF3;refine zy ?_;exact⟨(j+1,v3),(by show s.length-(j+1)<s.length-j;omega),rfl,(hE12.trans hE3),hj',(by simp only;rw[htk];exact hF3),rfl,rfl,rfl,trivial⟩
 by_cases hn4:x.kind=4
 ·have hk:=hn4
  have hA:namA x=[x.a]:=by unfold namA;rw[if_pos (by rw[hk];decide)]
  have hB:namB x=[]:=by unfold namB;rw[if_neg (by rw[hk];decide)]
  rw[hA,hB] at htk;rw[List.append_nil] at htk;refine ZAB rfl rfl rfl rfl (A_ff (by rw[hk];decide) (ZAd rfl rfl)) ?_;refine zy ?_;refine ZAB rfl rfl rfl rfl (A_ff (by rw[hk];decide) (ZAd rfl rfl)) ?_;refine zy ?_;refine ZAB rfl rfl rfl rfl (A_tt hk (ZAd rfl rfl)) ?_;refine zy ?_;refine ZAB rfl rfl rfl rfl (A_ix Und.h Tsz.h rfl rfl) ?_;refine zy ?_;refine ZAI rfl rfl rfl rfl rfl Bod.h rfl rfl (ZDB (y:=x.a) hF1 hE1 (by omega)) ?_;rintro v2 h2 ⟨hF2,hE2,-⟩;rw[<-ZBK] at hF2;have hl2:(mrgU ltB (namN (s.take j)++[x.a])).length<=300000:=by
   rw[ZBK];have:=ZFF x.a (mrgU ltB (namN (s.take j)));omega
  have hE12:=hE1.trans hE2;have hc5':ZAa h2 b (o+j*6+5)=some (str x.b):=ZAN (k:=5) (hE12.row hrow0) rfl;refine zy ?_;refine ZAB rfl rfl rfl rfl (A_ff (by rw[hk];decide) (ZAd rfl rfl)) ?_;refine zy ?_;refine ZAB rfl rfl rfl rfl (A_ff (by rw[hk];decide) (ZAd rfl rfl)) ?_;refine zy ?_;refine ZAB rfl rfl rfl rfl (A_ff (by rw[hk];decide) (ZAd rfl rfl)) ?_;refine zy ?_;exact⟨(j+1,v2),(by show s.length-(j+1)<s.length-j;omega),rfl,hE12,hj',(by simp only;rw[htk];exact hF2),rfl,rfl,rfl,trivial⟩
 by_cases hn1:x.kind=1
 ·have hk:=hn1
  have hA:namA x=[]:=by unfold namA;rw[if_neg (by rw[hk];decide)]
  have hB:namB x=[x.b]:=by unfold namB;rw[if_pos (by rw[hk];decide)]
  rw[hA,hB] at htk;rw[List.append_nil] at htk;refine ZAB rfl rfl rfl rfl (A_ff (by rw[hk];decide) (ZAd rfl rfl)) ?_;refine zy ?_;refine ZAB rfl rfl rfl rfl (A_ff (by rw[hk];decide) (ZAd rfl rfl)) ?_;refine zy ?_;refine ZAB rfl rfl rfl rfl (A_ff (by rw[hk];decide) (ZAd rfl rfl)) ?_;refine zy ?_;refine ZAB rfl rfl rfl rfl (A_ff (by rw[hk];decide) (ZAd rfl rfl)) ?_;refine zy ?_;refine ZAB rfl rfl rfl rfl (A_ff (by rw[hk];decide) (ZAd rfl rfl)) ?_;refine zy ?_;refine ZAB rfl rfl rfl rfl (A_tt hk (ZAd rfl rfl)) ?_;refine zy ?_;refine ZAB rfl rfl rfl rfl (A_ix Und.h Tsz.h rfl rfl) ?_;refine zy ?_;refine ZAI rfl rfl rfl rfl rfl Bod.h rfl rfl (ZDB (y:=x.b) hF1 hE1 (by omega)) ?_
  rintro v3 h3 ⟨hF3,hE3,-⟩;rw[<-ZBK] at hF3;refine zy ?_;exact⟨(j+1,v3),(by show s.length-(j+1)<s.length-j;omega),rfl,(hE1.trans hE3),hj',(by simp only;rw[htk];exact hF3),rfl,rfl,rfl,trivial⟩
 have hA:namA x=[]:=by unfold namA;rw[if_neg (fun q=>q.elim hn2 (fun q=>q.elim hn3 hn4))]
 have hB:namB x=[]:=by unfold namB;rw[if_neg (fun q=>q.elim hn2 (fun q=>q.elim hn3 hn1))]
 rw[hA,hB] at htk;rw[List.append_nil,List.append_nil] at htk;refine ZAB rfl rfl rfl rfl (A_ff (by exact hn2) (ZAd rfl rfl)) ?_;refine zy ?_;refine ZAB rfl rfl rfl rfl (A_ff (by exact hn3) (ZAd rfl rfl)) ?_;refine zy ?_;refine ZAB rfl rfl rfl rfl (A_ff (by exact hn4) (ZAd rfl rfl)) ?_;refine zy ?_;refine ZAB rfl rfl rfl rfl (A_ff (by exact hn2) (ZAd rfl rfl)) ?_;refine zy ?_;refine ZAB rfl rfl rfl rfl (A_ff (by exact hn3) (ZAd rfl rfl)) ?_;refine zy ?_;refine ZAB rfl rfl rfl rfl (A_ff (by exact hn1) (ZAd rfl rfl)) ?_;refine zy ?_;exact⟨(j+1,_),(by show s.length-(j+1)<s.length-j;omega),rfl,hE1,hj',(by simp only;rw[htk];exact hF1),rfl,rfl,rfl,trivial⟩
theorem Own.putS {h0 h h':Heap}{v v':Value}{cs cs':List Value}{n n':Nat}{l:List It}(hO:Own h0 h (slI h0 v 9 1 cs n::l))(hw:WF h)(hn:h0.nx<=h.nx)(he:Ext h h')(hF:ZAA h0 h' v' 9 1 cs' n')(hv:v'=v\/∀c,ZA6 v'=some c->h.nx<=c):Own h0 h' (slI h0 v' 9 1 cs' n'::l):=by
 rcases hv with rfl|hv
 ·exact (hO.ext he).as (y:=slI h0 v' 9 1 cs' n') (fun _=>hF) (fun c hc=>hc)
 ·exact hO.tail.new hw hn he (y:=slI h0 v' 9 1 cs' n') hF hv
def pI (h0:Heap)(q:Value×List Str):It:=slI h0 q.1 9 1 (q.2.map str) q.2.length
def plI (h0:Heap)(v:Value)(P:List (Value×List Str)):It:=slI h0 v 38 1 (P.map Prod.fst) P.length
theorem ZCY {h0 h:Heap}{b o n i:Nat}{oa:Option Nat}{el:TypeId}{cs:List Value}{x:Value}(hF:ZAA h0 h (.slice (some ⟨b,o,oa⟩) n n) el 1 cs n)(hx:cs[i]?=some x):ZAa h b (o+i*1)=some x:=by
 obtain⟨a',e,hl,hc⟩:=hF.is;simp only[Value.slice.injEq,and_true] at e;subst e;have hi:i<cs.length:=(List.getElem?_eq_some_iff.1 hx).1;obtain⟨b',o',oa',e2,h2⟩:=hc i hi;cases e2;rw[Nat.mul_one,h2,hx]
end Go.Dw
namespace Go.Dw
open Go Go.Dx Go.Proofs
set_option maxRecDepth 100000
set_option maxHeartbeats 4000000 in
theorem ZHB {ad:Option Addr}{cap:Nat}{S:List WkR}{h:Heap}{a b:Str}(hR:ZC0 h ad S)(hf:∀x∈S,x.Fit)(hlen:S.length<=200)(ha:a∈nodW S)(hne:∀k∈nodW S,k≠[])(hnl:(nodW S).length<=10000) :
  Sv Tryz.prog 71 [.slice ad S.length cap,str a,str b] h (RetP fun v h'=>ZAA h h' v 9 1 ((ZBW (nxtW S) a b (nodW S).length).map str) (ZBW (nxtW S) a b (nodW S).length).length/\Ext h h'):=by
 refine ZCo fun hw=>?_;have hbl:=fun i=>ZLe ha i;have hbn:∀i,∀e∈bfsQ (nxtW S) a i,e.1∈nodW S:=fun i=>ZMn ha (fun v _ z hz=>ZDd hz) i;have hqk:=fun i=>QOK.bfs (nxtW S) a i;refine ZAG Tryz.func71 rfl (by rw[Tryz.ntmps71];rfl) ?_;show Wc Tryz.prog ⟨71,85,none⟩ _ _ _ _ _;refine zy ?_;refine ZBa rfl rfl Und.h Tsz.h Zr.h rfl rfl rfl rfl rfl fun h1 hE1 hW1 hg1 hn1=>?_;have hO1:=(Own.nil h h).newSl hw (Nat.le_refl _) hE1 (ZAA.lit (n:=1) (sz:=1) hg1 rfl (Nat.le_refl _));generalize h.nx=b1 at hO1 hg1 ⊢;refine zy ?_;refine ZBa rfl rfl Und.h Tsz.h Zr.h rfl rfl rfl rfl rfl fun h2 hE2 hW2 hg2 hn2=>?_;have hO2:=hO1.newSl hW1 hE1.2.1 hE2 (ZAA.lit (n:=1) (sz:=1) hg2 rfl (Nat.le_refl _))
 have hE12:=hE1.trans hE2;generalize h1.nx=b2 at hO2 hg2 ⊢;refine zy ?_;refine ZBa rfl rfl Und.h Tsz.h Zr.h rfl rfl rfl rfl rfl fun h3 hE3 hW3 hg3 hn3=>?_;have hO3:=hO2.newSl hW2 hE12.2.1 hE3 (ZAA.lit (n:=1) (sz:=1) hg3 rfl (Nat.le_refl _));have hE13:=hE12.trans hE3;generalize h2.nx=b3 at hO3 hg3 ⊢;have hO:Own h h3 (slI h (.slice (some ⟨b1,0,none⟩) 1 1) 9 1 ((mrgU ltB ((bfsQ (nxtW S) a 0).map Prod.fst)).map str) (mrgU ltB ((bfsQ (nxtW S) a 0).map Prod.fst)).length::plI h (.slice (some ⟨b3,0,none⟩) 1 1) [((.slice (some ⟨b2,0,none⟩) 1 1),[a])] :: [((.slice (some ⟨b2,0,none⟩) 1 1:Value),[a])].map (pI h)):=hO3.up3
 clear hO1 hO2 hO3 hE1 hE2 hE3 hg1 hg2 hg3 hE12 hn1 hn2 hn3 hW1 hW2;refine zy ?_
 refine ZAQ (fun (st:Nat×Value×Value×List (Value×List Str)) m ds h'=>ds=[]/\Ext h h'/\Own h h' (slI h st.2.1 9 1 ((mrgU ltB ((bfsQ (nxtW S) a st.1).map Prod.fst)).map str) (mrgU ltB ((bfsQ (nxtW S) a st.1).map Prod.fst)).length::plI h st.2.2.1 st.2.2.2::st.2.2.2.map (pI h)) ∧
   st.2.2.2.map Prod.snd=(ZHb (bfsQ (nxtW S) a st.1)).drop st.1/\st.1<=(bfsQ (nxtW S) a st.1).length/\(∀j<st.1,∀e,(bfsQ (nxtW S) a st.1)[j]?=some e->e.1≠b)/\(∀q∈st.2.2.2,∃a n c,q.1=.slice a n c) ∧
   AllK m [(0,.slice ad S.length cap),(1,str a),(2,str b),(7,st.2.1),(8,st.2.2.1)]) (fun st=>(nodW S).length-st.1) (0,.slice (some ⟨b1,0,none⟩) 1 1,.slice (some ⟨b3,0,none⟩) 1 1,[((.slice (some ⟨b2,0,none⟩) 1 1),[a])]) ?_ ?_
 ·exact⟨rfl,hE13,hO,(by rw[show bfsQ (nxtW S) a 0=[(a,[])] from rfl,ZSn (hne a ha)];rfl),Nat.zero_le _,fun j hj=>absurd hj (Nat.not_lt_zero _),(fun q hq=>by rw[List.mem_singleton.1 hq];exact⟨_,_,_,rfl⟩),rfl,rfl,rfl,rfl,rfl,trivial⟩
 clear hO hE13 hW3;rintro⟨c,v7,v8,P8⟩ m ds h1 ⟨rfl,hE1,hO1,hP8,hcl,hnf,hsl8,hall⟩;simp only at hO1 hP8 hcl hnf hsl8 hall;have hF8:ZAA h h1 v8 38 1 (P8.map Prod.fst) P8.length:=hO1.p2;obtain⟨a8,rfl,-,hl8⟩:=hF8.is;have hPl:P8.length=(bfsQ (nxtW S) a c).length-c:=by
  have:=congrArg List.length hP8;rw[List.length_map,List.length_drop,ZFJ] at this;exact this
 have hcb:=hbl c;refine Wc.le ?_ (Le.kn hall);clear hall;refine zy ?_;refine ZAL rfl rfl rfl rfl (ZCR rfl rfl) (fun hgt=>?_) (fun hgt=>?_);rotate_left
 ·have hend:(bfsQ (nxtW S) a c).length<=c:=by omega
  have hpr:ZBW (nxtW S) a b (nodW S).length=[]:=ZIX (i:=c) (by omega) hend (fun hb=>by
   obtain⟨e,he,q⟩:=List.mem_map.1 hb;obtain⟨j,hj,rfl⟩:=List.getElem_of_mem he;exact hnf j (by omega) _ (List.getElem?_eq_getElem hj) q)
  refine zy ?_;exact ZAE (ZAF rfl ⟨by rw[hpr];exact ZAA.nil _ _ _ _,hE1⟩)
 generalize hQ0:bfsQ (nxtW S) a c=Q0 at *;have hlQ:Q0.length<=(nodW S).length:=hcb;refine zy ?_
 refine ZAQ (fun (st:Nat×Value×Value×List (Value×List Str)) m ds h'=>ds=[]/\Ext h h'/\st.1<=P8.length/\Own h h' (plI h st.2.2.1 st.2.2.2::slI h st.2.1 9 1 ((mrgU ltB ((bfsQ (nxtW S) a (c+st.1)).map Prod.fst)).map str) (mrgU ltB ((bfsQ (nxtW S) a (c+st.1)).map Prod.fst)).length::plI h (.slice a8 P8.length P8.length) P8::(P8++st.2.2.2).map (pI h)) ∧
   st.2.2.2.map Prod.snd=(ZHb (bfsQ (nxtW S) a (c+st.1))).drop Q0.length/\(∀j<c+st.1,∀e,(bfsQ (nxtW S) a (c+st.1))[j]?=some e->e.1≠b)/\(∀q∈st.2.2.2,∃a n c,q.1=.slice a n c) ∧
   AllK m [(0,.slice ad S.length cap),(1,str a),(2,str b),(7,st.2.1),(8,.slice a8 P8.length P8.length),(9,st.2.2.1),(10,i64 st.1)]) (fun st=>P8.length-st.1) (0,v7,.slice none 0 0,[]) ?_ ?_
 ·refine⟨rfl,hE1,Nat.zero_le _,?_,?_,?_,(fun q hq=>absurd hq List.not_mem_nil),rfl,rfl,rfl,rfl,rfl,rfl,rfl,trivial⟩
  ·show Own h h1 (plI h (.slice none 0 0) []::slI h v7 9 1 ((mrgU ltB ((bfsQ (nxtW S) a c).map Prod.fst)).map str) (mrgU ltB ((bfsQ (nxtW S) a c).map Prod.fst)).length::plI h (.slice a8 P8.length P8.length) P8::(P8++[]).map (pI h))
   rw[hQ0,List.append_nil];exact hO1.nilSl _ _
  ·show []=(ZHb (bfsQ (nxtW S) a c)).drop _
   rw[hQ0,List.drop_of_length_le (by rw[ZFJ];exact Nat.le_refl _)]
  ·show ∀j<c,∀e,(bfsQ (nxtW S) a c)[j]?=some e->e.1≠b
   rw[hQ0];exact hnf
 clear hO1 hnf hl8 hF8;rintro⟨j,v7,v9,P9⟩ m ds h2 ⟨rfl,hE2,hj,hO2,hP9,hnf2,hsl9,hall⟩;simp only at hj hO2 hP9 hnf2 hsl9 hall;obtain⟨R,hR2⟩:=ZGr (nxtW S) a c (c+j) (by omega);rw[hQ0] at hR2;refine Wc.le ?_ (Le.kn hall);clear hall;refine zy ?_;refine ZAL rfl rfl rfl rfl (ZAY rfl rfl) (fun hjl=>?_) (fun hjl=>?_);rotate_left
 ·have hcj:c+j=Q0.length:=by omega
  rw[hcj] at hO2 hP9 hnf2 hR2;refine zy ?_;refine⟨(Q0.length,v7,v9,P9),(by show (nodW S).length-Q0.length<(nodW S).length-c;omega),rfl,hE2,?_,hP9,?_,hnf2,hsl9,rfl,rfl,rfl,rfl,rfl,trivial⟩
  ·refine hO2.up2.sub (.cons_cons _ (.cons_cons _ (.cons _ ?_)))
   rw[List.map_append];exact List.sublist_append_right _ _
  ·show Q0.length<=(bfsQ (nxtW S) a Q0.length).length
   rw[hR2,List.length_append];omega
 have hj':j<P8.length:=by omega
 have hcj:c+j<Q0.length:=by omega
 have hqc:=hqk c;rw[hQ0] at hqc;have hqj:=hqk (c+j);have hbj:=hbl (c+j);have hbnj:=hbn (c+j)
 have hsuc:∀e,(bfsQ (nxtW S) a (c+j))[c+j]?=some e->bfsQ (nxtW S) a (c+(j+1))=ZQE (nxtW S) (bfsQ (nxtW S) a (c+j)) e.1:=fun e he=>by
  show bfsQ (nxtW S) a (c+j+1)=_
  rw[bfsQ,he]
 have hpf:∀e,(bfsQ (nxtW S) a (c+j))[c+j]?=some e->e.1=b->ZBW (nxtW S) a b (nodW S).length=pthQ (bfsQ (nxtW S) a (c+j)) b:=fun e he q=>ZNv (by omega) he q;generalize hQj:bfsQ (nxtW S) a (c+j)=Qj at *;subst hR2;have he0:(Q0++R)[c+j]?=some Q0[c+j]:=by rw[List.getElem?_append_left hcj,List.getElem?_eq_getElem hcj]
 replace hsuc:=hsuc _ he0;replace hpf:=hpf _ he0;have hmem:Q0[c+j]∈Q0:=List.getElem_mem hcj;have hpth:=ZJI hqc hqj hmem;have hen:Q0[c+j].1∈nodW S:=hbnj _ (List.mem_append_left _ hmem);have hvm:Q0[c+j].1∈(Q0++R).map Prod.fst:=List.mem_map.2 ⟨_,List.mem_append_left _ hmem,rfl⟩;have hq2:P8[j].2=pthQ (Q0++R) Q0[c+j].1:=by
  rw[hpth];have h1:(P8.map Prod.snd)[j]?=some P8[j].2:=by rw[List.getElem?_map,List.getElem?_eq_getElem hj'];rfl
  rw[hP8,List.getElem?_drop] at h1;unfold ZHb at h1;rw[List.getElem?_map,List.getElem?_eq_getElem hcj] at h1;exact (Option.some.inj h1).symm
 have hqm:P8[j]∈P8:=List.getElem_mem hj';obtain⟨r,hr⟩:=ZQn (Q:=Q0++R) (hne _ hen);have hrl:=ZSS (Q0++R) Q0[c+j].1;obtain⟨aq,nq,cq,hq1⟩:=hsl8 _ hqm;have hFq:ZAA h h2 P8[j].1 9 1 (P8[j].2.map str) P8[j].2.length:=hO2.has (pI h P8[j]) (by simp only[List.mem_cons,List.mem_map];exact .inr (.inr (.inr ⟨_,List.mem_append_left _ hqm,rfl⟩)));have hF8:ZAA h h2 (.slice a8 P8.length P8.length) 38 1 (P8.map Prod.fst) P8.length:=hO2.p3;obtain⟨_,e8,-,hl8⟩:=hF8.is;simp only[Value.slice.injEq,and_true] at e8;subst e8;obtain⟨b8,o8,oa8,rfl,hc8⟩:=hl8 j (by rw[List.length_map];exact hj');rw[List.getElem?_map,List.getElem?_eq_getElem hj'] at hc8
 simp only[Option.map_some] at hc8;rw[hq2] at hFq;generalize hqg:P8[j]=q at *;obtain⟨u,p⟩:=q;simp only at hq1 hq2 hFq hc8;subst hq2;generalize hpg:pthQ (Q0++R) Q0[c+j].1=p at *;generalize heg:Q0[c+j].1=e at *;have hplen:p.length=r.length+1:=by rw[hr,List.length_append,List.length_singleton]
 have hc8':ZAa h2 b8 (o8+j*1)=some u:=by rw[Nat.mul_one];exact hc8
 clear hq1;obtain⟨au,rfl,-,hlu⟩:=ZAA.list (enc:=str) hFq;obtain⟨bp,op,oap,rfl,hcp⟩:=hlu (p.length-1) (by omega);have hpe:p[p.length-1]'(by omega)=e:=by
  subst hr;simp
 rw[hpe] at hcp;refine zy ?_;refine ZAS hmix [0,0,3,7,0,0,48,112,240,496,1023,2047,4095] [0,1,2,3,4,5,6,7,8,9,10,11] (some 12) [([],none)] (by kernel_rfl) (by kernel_rfl) ?_;refine z_m ?_;refine z_m ?_;refine ZAD rfl rfl rfl rfl rfl (fun _=>A_ix (k:=j) Und.h Tsz.h rfl rfl) ?_;refine z_l ?_;refine z_m ?_;refine z_m ?_;refine ZAD rfl rfl rfl rfl rfl (fun _=>A_ix (k:=j) Und.h Tsz.h rfl rfl) ?_;refine z_l ?_;refine z_c ?_;refine z_u ?_;refine ZAD rfl rfl rfl rfl rfl (fun _=>ZAM (k:=p.length-1) Und.h Tsz.h rfl rfl (by omega) (by omega)) ?_;refine z_l ?_;refine ZAJ [0,1,2,3,4,5,6,7,8,9,10,11] (by kernel_rfl) rfl (ZAC rfl) rfl nb (dF (dF (dF (dF (dF (dF (dF (dF (dF (dF (dF (dF nF)))))))))))) (ZDe rfl rfl (ZA8 rfl) ?_)
 refine ZAV (ZAC rfl) nb' ?_;refine zy ?_
 by_cases hb:e=b
 ·refine ZAB rfl rfl rfl rfl (A_tt hb (ZAX rfl rfl)) ?_
  refine zy ?_;refine ZAB rfl rfl rfl rfl (A_ix Und.h Tsz.h rfl rfl) ?_;refine zy ?_;exact ZAE (ZAF rfl ⟨by rw[hpf hb,<-hb,hpg];exact hFq,hE2⟩)
 refine ZAB rfl rfl rfl rfl (A_ff hb (ZAX rfl rfl)) ?_;refine zy ?_;refine ZBO fun hw2=>?_;refine ZAI rfl rfl rfl rfl rfl Bod.h rfl rfl (ZSV (k:=e) (hR.ext hE2) hf (by omega)) ?_;rintro v12 h3 ⟨hF12,hE23⟩;have hO3:=(hO2.newSl hw2 hE2.2.1 hE23 hF12).up2;have hE3:=hE2.trans hE23;have hnb:∀m,∀q∈((nxtW S e).take m).foldl (addQ e) (Q0++R),q.1∈nodW S:=fun m=>ZJB _ hbnj (fun z hz=>ZDd (List.mem_of_mem_take hz))
 have hql:∀m,(((nxtW S e).take m).foldl (addQ e) (Q0++R)).length<=(nodW S).length:=fun m=>by
  have:=ZBV (QOK.fold ((nxtW S e).take m) hqj hvm).nd (fun x hx=>by
   obtain⟨q,hq,rfl⟩:=List.mem_map.1 hx;exact hnb m q hq)
  rwa [List.length_map] at this
 have hqo:∀m,QOK a (((nxtW S e).take m).foldl (addQ e) (Q0++R)):=fun m=>QOK.fold _ hqj hvm;have hnl12:(nxtW S e).length<=1000:=Nat.le_trans (ZQx _ _) (by omega);refine zy ?_
 refine ZAQ (fun (st:Nat×Value×Value×List (Value×List Str)) m ds h'=>ds=[]/\Ext h h'/\st.1<=(nxtW S e).length/\Own h h' (plI h st.2.2.1 st.2.2.2::slI h v12 9 1 ((nxtW S e).map str) (nxtW S e).length::slI h st.2.1 9 1 ((mrgU ltB ((((nxtW S e).take st.1).foldl (addQ e) (Q0++R)).map Prod.fst)).map str) (mrgU ltB ((((nxtW S e).take st.1).foldl (addQ e) (Q0++R)).map Prod.fst)).length::plI h (.slice (some ⟨b8,o8,oa8⟩) P8.length P8.length) P8::(P8++st.2.2.2).map (pI h)) ∧
   st.2.2.2.map Prod.snd=(ZHb (((nxtW S e).take st.1).foldl (addQ e) (Q0++R))).drop Q0.length/\(∀q∈st.2.2.2,∃a n c,q.1=.slice a n c) ∧
   AllK m [(0,.slice ad S.length cap),(1,str a),(2,str b),(7,st.2.1),(8,.slice (some ⟨b8,o8,oa8⟩) P8.length P8.length),(9,st.2.2.1),(10,i64 j),(11,str e),(12,v12),(13,i64 st.1)]) (fun st=>(nxtW S e).length-st.1) (0,v7,v9,P9) ?_ ?_
 ·exact⟨rfl,hE3,Nat.zero_le _,hO3,hP9,hsl9,rfl,rfl,rfl,rfl,rfl,rfl,rfl,rfl,rfl,rfl,trivial⟩
 clear hO3 hO2 hP9 hsl9 hE2 hE3 hE23 hF12 hw2 hF8 hc8 hc8' hFq hlu hcp;rintro⟨k,v7,v9,P9⟩ m ds h3 ⟨rfl,hE3,hk,hO3,hP9,hsl9,hall⟩;simp only at hk hO3 hP9 hsl9 hall;have hF12:ZAA h h3 v12 9 1 ((nxtW S e).map str) (nxtW S e).length:=hO3.p2;obtain⟨a12,hv12,-,hl12⟩:=ZAA.list (enc:=str) hF12;subst hv12;refine Wc.le ?_ (Le.kn hall);clear hall;refine zy ?_;refine ZAL rfl rfl rfl rfl (ZAY rfl rfl) (fun hkl=>?_) (fun hkl=>?_);rotate_left
 ·have hkk:k=(nxtW S e).length:=by omega
  subst hkk;rw[List.take_length] at hO3 hP9;have hst:bfsQ (nxtW S) a (c+(j+1))=(nxtW S e).foldl (addQ e) (Q0++R):=hsuc;refine zy ?_;refine⟨(j+1,v7,v9,P9),(by show P8.length-(j+1)<P8.length-j;omega),rfl,hE3,hj',?_,?_,?_,hsl9,rfl,rfl,rfl,rfl,rfl,rfl,rfl,trivial⟩
  ·simp only
   rw[hst];exact hO3.sub (.cons_cons _ (.cons _ (List.Sublist.refl _)))
  ·simp only
   rw[hst];exact hP9
  ·simp only
   rw[hst];obtain⟨T,hT⟩:=ZEX e (nxtW S e) (Q0++R);intro i hi q hq;rw[hT] at hq;have hil:i<(Q0++R).length:=by rw[List.length_append];omega
   rw[List.getElem?_append_left hil] at hq
   rcases Nat.lt_or_ge i (c+j) with g|g
   ·exact hnf2 i g q hq
   ·have:i=c+j:=by omega
    subst this;rw[he0] at hq;cases hq;rw[heg];exact hb
 have hk':k<(nxtW S e).length:=by omega
 have htk:((nxtW S e).take (k+1)).foldl (addQ e) (Q0++R)=addQ e (((nxtW S e).take k).foldl (addQ e) (Q0++R)) (nxtW S e)[k]:=by
  rw[List.take_add_one,List.getElem?_eq_getElem hk',List.foldl_append];rfl
 have hz0:=hne _ (ZDd (List.getElem_mem hk'));obtain⟨b12,o12,oa12,rfl,hcz0⟩:=hl12 k hk';have hzi:((nxtW S e).map str)[k]?=some (str (nxtW S e)[k]):=by rw[List.getElem?_map,List.getElem?_eq_getElem hk'];rfl
 have h8i:(P8.map Prod.fst)[j]?=some (.slice (some ⟨bp,op,oap⟩) p.length p.length):=by rw[List.getElem?_map,List.getElem?_eq_getElem hj',hqg];rfl
 obtain⟨T,hT⟩:=ZEX e ((nxtW S e).take k) (Q0++R);have hqk2:=hqo k;have hqlk:=hql k;have hpk:pthQ (((nxtW S e).take k).foldl (addQ e) (Q0++R)) e=p:=by
  rw[hT] at hqk2 ⊢;rw[<-heg,ZJI hqj hqk2 (List.mem_append_left _ hmem),heg,hpg]
 have hvk:e∈(((nxtW S e).take k).foldl (addQ e) (Q0++R)).map Prod.fst:=by
  rw[hT,List.map_append];exact List.mem_append_left _ hvm
 have hQT:Q0.length<=(((nxtW S e).take k).foldl (addQ e) (Q0++R)).length:=by rw[hT,List.length_append,List.length_append];omega
 clear hT;have hadd:=fun (hz:(nxtW S e)[k]'hk' ∉ (((nxtW S e).take k).foldl (addQ e) (Q0++R)).map Prod.fst)=>ZSg hqk2 hvk hz hz0;rw[hpk] at hadd;generalize ((nxtW S e).take k).foldl (addQ e) (Q0++R)=Qk at *;generalize (nxtW S e)[k]=z at *;have hF7:ZAA h h3 v7 9 1 ((mrgU ltB (Qk.map Prod.fst)).map str) (mrgU ltB (Qk.map Prod.fst)).length:=hO3.p3;have hl7:(mrgU ltB (Qk.map Prod.fst)).length<=10000:=Nat.le_trans (ZBp ZAP _) (by rw[List.length_map];omega);obtain⟨a7,hv7,-,hls7⟩:=ZAA.list (enc:=str) hF7;subst hv7;have hdec:decide (z∈mrgU ltB (Qk.map Prod.fst))=decide (z∈Qk.map Prod.fst):=decide_eq_decide.2 (ZBN ZAP)
 have hhs:=ZLi (cap:=(mrgU ltB (Qk.map Prod.fst)).length) (k:=z) hls7 (show _<_ by omega);rw[hdec] at hhs;have hP9l:P9.length<=10000:=by
  have:=congrArg List.length hP9;rw[List.length_map,List.length_drop,ZFJ] at this;omega
 refine zy ?_;refine ZAB rfl rfl rfl rfl (A_ix Und.h Tsz.h rfl rfl) ?_;refine zy ?_
 by_cases hm:z∈Qk.map Prod.fst
 ·rw[decide_eq_true hm] at hhs
  rw[ZQF hm] at htk;refine ZAR rfl rfl rfl rfl rfl Bod.h rfl rfl hhs ?_;refine zy ?_;refine⟨(k+1,_,v9,P9),(by show (nxtW S e).length-(k+1)<(nxtW S e).length-k;omega),rfl,hE3,hk',?_,?_,hsl9,rfl,rfl,rfl,rfl,rfl,rfl,rfl,rfl,rfl,rfl,trivial⟩
  ·simp only
   rw[htk];exact hO3
  ·simp only
   rw[htk];exact hP9
 rw[decide_eq_false hm] at hhs;refine ZAR rfl rfl rfl rfl rfl Bod.h rfl rfl hhs ?_;refine zy ?_;refine ZAB rfl rfl rfl rfl (A_ix Und.h Tsz.h rfl rfl) ?_;refine zy ?_;refine ZBO fun hw3=>?_;refine ZAI rfl rfl rfl rfl rfl Bod.h rfl rfl (ZDB (y:=z) hF7 hE3 (by omega)) ?_;rintro v7' h4 ⟨hF7',hE34,hv7'⟩;have hO4:Own h h4 (slI h v9 38 1 (P9.map Prod.fst) P9.length::slI h (.slice (some ⟨b12,o12,oa12⟩) (nxtW S e).length (nxtW S e).length) 9 1 ((nxtW S e).map str) (nxtW S e).length::slI h v7' 9 1 ((insU ltB z (mrgU ltB (Qk.map Prod.fst))).map str) (insU ltB z (mrgU ltB (Qk.map Prod.fst))).length::plI h (.slice (some ⟨b8,o8,oa8⟩) P8.length P8.length) P8::(P8++P9).map (pI h)):=(hO3.up3.putS hw3 hE3.2.1 hE34 hF7' hv7').dn3
 have hE4:=hE3.trans hE34;rw[<-ZBK,<-ZRa (v:=e) hm] at hO4;clear hO3 hF7 hls7 hhs hF7' hv7' hE34 hE3 hl12 hcz0 hF12;have hEa0:=fun (hw4:WF h4)=>Ext.add hw4 (.cells [] 9 false);refine zy ?_;refine ZDu fun hw4=>?_;replace hEa0:=hEa0 hw4;have hEa:=hEa0.trans (Ext.rsv (Heap.add h4 (.cells [] 9 false)));have hOa0:=hO4.newSl hw4 hE4.2.1 hEa0 (ZAA.lit (el:=9) (sz:=1) (n:=0) (cs:=[]) Heap.get_add_same rfl (Nat.le_refl _));have hne4:=hOa0.ne (hw4.add _) (Nat.le_refl (h4.nx+1));have hn4:=hE4.2.1;have hFu:ZAA h h4 (.slice (some ⟨bp,op,oap⟩) p.length p.length) 9 1 (p.map str) p.length:=hO4.has (pI h (.slice (some ⟨bp,op,oap⟩) p.length p.length,p)) (by simp only[List.mem_cons,List.mem_map];exact .inr (.inr (.inr (.inr ⟨_,List.mem_append_left _ hqm,rfl⟩))))
 have hc4:=ZCY (hO4.at 1 rfl:ZAA h h4 (.slice (some ⟨b12,o12,oa12⟩) _ _) 9 1 _ _) hzi;have hd4:=ZCY (hO4.at 3 rfl:ZAA h h4 (.slice (some ⟨b8,o8,oa8⟩) _ _) 38 1 _ _) h8i;refine zy ?_;refine ZAS hmix [0,0,0,0,12,28,62,0,0,384,896,1920,4094,8190,16383,32767] [0,1,2,3,4,5,7,8,9,10,11] (some 6) [([],(some 12)),([13],(some 14)),([],(some 15)),([],none)] (by kernel_rfl) (by kernel_rfl) ?_;refine z_m ?_;refine ZCy (nk:=.sl _ _) rfl rfl rfl rfl rfl (fun _ _ hs=>N_bs hs Und.h Tsz.h Zr.h rfl rfl rfl rfl rfl) ?_;refine z_m ?_;refine z_m ?_;refine ZAD rfl rfl rfl rfl rfl (fun _=>A_ix (k:=j) Und.h Tsz.h rfl rfl) ?_;refine z_l ?_;refine z_m ?_;refine z_m ?_;refine ZAD rfl rfl rfl rfl rfl (fun _=>A_ix (k:=k) Und.h Tsz.h rfl rfl) ?_;refine z_l ?_
 refine ZCy (nk:=.sl _ _) rfl rfl rfl rfl rfl (fun _ _ hs=>N_bs hs Und.h Tsz.h Zr.h rfl rfl rfl rfl rfl) ?_;refine ZAJ (h1:=(rsv (Heap.add h4 _))) [1,2,3,4,5] (by kernel_rfl) rfl (ZAC rfl) rfl rfl (kF (kF (kF (kF (kF (dF (dF (dF (dF (dF (kF nF))))))))))) (ZBM (ZGI (n1:=h4.nx+1) (by':=16) (sz:=1) (k:=p.length) (n:=0) (l:=p.map str) rfl hw (hE4.trans hEa) rfl rfl rfl rfl Und.h inferInstance rfl rfl (hOa0.ext (Ext.rsv _)) ((hFu.ext hEa).src (dd:=.slice 9) Und.h (by intro k;simp)) (by rw[List.length_map,Nat.mul_one]) (ZGx _) (by omega) (by omega) hne4 (Nat.lt_succ_self _) (fun v12 h12 hO13 hE12 hne12 hn12 hw12=>?_)))
 have hU12:=Upd.mk' h12 (h4.nx+1) (.cells [str z] 9 false);have hO13':=hO13.other (.cells [str z] 9 false) hne12;have hE12':=hU12.ext hE12 hw (Nat.le_succ_of_le hn4);rw[List.nil_append,Nat.zero_add] at hO13';have hc12:=ZCY (hO13.at 2 rfl:ZAA h h12 (.slice (some ⟨b12,o12,oa12⟩) _ _) 9 1 _ _) hzi;have hd12:=ZCY (hO13.at 4 rfl:ZAA h h12 (.slice (some ⟨b8,o8,oa8⟩) _ _) 38 1 _ _) h8i;have hc12':=ZCY (hO13'.at 2 rfl:ZAA h _ (.slice (some ⟨b12,o12,oa12⟩) _ _) 9 1 _ _) hzi;have hd12':=ZCY (hO13'.at 4 rfl:ZAA h _ (.slice (some ⟨b8,o8,oa8⟩) _ _) 38 1 _ _) h8i;refine ZAJ (h1:=(h12.set (h4.nx+1) (.cells [str z] 9 false))) [1,2,3,4,5,6,7,8,9,10,11] (by kernel_rfl) rfl (by refine ZJU (i:=11) (nk:=.sl _ _) rfl rfl rfl rfl rfl (fun _ _ hs=>N_bs hs Und.h Tsz.h Zr.h rfl rfl rfl rfl rfl) rfl ?_;refine t_l 10 ?_;refine ZAp (i:=9) rfl rfl rfl rfl rfl (fun _=>A_ix (k:=k) Und.h Tsz.h rfl rfl) rfl ?_;refine t_m 8 ?_;refine t_m 7 ?_;refine t_m 0 ?_;exact ZAC rfl) rfl rfl (dF (dF (dF (dF (dF (kF nF)))))) (ZBM (ZBE (by':=16) (sz:=1) (k:=1) (n:=p.length) (l:=[str z]) rfl hw hE12' rfl rfl rfl rfl Und.h inferInstance rfl rfl hO13' ((ZAA.lit (h0:=h) (n:=1) (sz:=1) hU12.at' rfl (Nat.le_succ_of_le hn4)).src (dd:=.slice 9) Und.h (by intro k;simp)) rfl rfl (by omega) (by omega) (fun v14 h14 hO15 hE14 hw14=>?_)))
 have hF14:ZAA h h14 v14 9 1 ((p++[z]).map str) (p++[z]).length:=by
  rw[List.map_append,List.length_append];exact hO15.p1
 obtain⟨a14,hv14,-,-⟩:=ZAA.list (enc:=str) hF14;subst hv14;refine ZCy (nk:=.sl _ _) rfl rfl rfl rfl rfl (fun _ _ hs=>N_bs hs Und.h Tsz.h Zr.h rfl rfl rfl rfl rfl) ?_;have hEb:=Ext.add hw14 (.cells [.slice a14 (p++[z]).length (p++[z]).length] 38 false);refine ZAJ (h1:=(Heap.add h14 _)) [0,1,2,3,4,5,6,7,8,9,10,11,12,13] (by kernel_rfl) rfl (by refine t_m 0 ?_;exact ZAC rfl) rfl rfl (dF (dF nF)) (ZBM (ZBE (by':=24) (sz:=1) (k:=1) (n:=P9.length) (l:=[.slice a14 (p++[z]).length (p++[z]).length]) rfl hw (hE14.trans hEb) rfl rfl rfl rfl Und.h inferInstance rfl rfl ((hO15.ext hEb).up2) ((ZAA.lit (h0:=h) (n:=1) (sz:=1) Heap.get_add_same rfl hE14.2.1).src (dd:=.slice 38) Und.h (by intro k;simp)) rfl rfl (by omega) (by omega) (fun v16 h16 hO17 hE16 hw16=>?_)))
 refine ZAJ (h1:=h16) [0,1,2,3,4,5,6,7,8,9,10,11,12,13,14] (by kernel_rfl) rfl (ZAC rfl) rfl rfl nF (ZDe rfl rfl (ZA8 rfl) ?_);refine ZAV (h1:=h16) (ZAC rfl) rfl ?_;refine zy ?_;refine⟨(k+1,v7',v16,P9++[(.slice a14 (p++[z]).length (p++[z]).length,p++[z])]),(by show (nxtW S e).length-(k+1)<(nxtW S e).length-k;omega),rfl,hE16,hk',?_,?_,?_,rfl,rfl,rfl,rfl,rfl,rfl,rfl,rfl,rfl,rfl,trivial⟩
 ·simp only
  have el:∀q:Value×List Str,plI h v16 (P9++[q])=slI h v16 38 1 (P9.map Prod.fst++[q.1]) (P9.length+1):=fun q=>by
   unfold plI;rw[List.map_append,List.length_append];rfl
  have er:∀q:Value×List Str,(P8++(P9++[q])).map (pI h)=(P8++P9).map (pI h)++[pI h q]:=fun q=>by
   rw[<-List.append_assoc,List.map_append];rfl
  rw[htk,el,er];have hO18:=hO17.perm (List.Perm.cons _ (List.perm_append_singleton _ _).symm);have ex:slI h (.slice a14 (p++[z]).length (p++[z]).length) 9 1 (p.map str++[str z]) (p.length+1)=pI h (.slice a14 (p++[z]).length (p++[z]).length,p++[z]):=by
   unfold pI;simp only[List.map_append,List.length_append,List.length_singleton,List.map_cons,List.map_nil]
  rw[ex] at hO18;exact hO18
 ·simp only
  rw[htk,hadd hm,List.map_append,hP9,List.drop_append_of_le_length (by rw[ZFJ];exact hQT)]
  rfl
 ·simp only
  intro q hq
  rcases List.mem_append.1 hq with hq|hq
  ·exact hsl9 q hq
  ·rw[List.mem_singleton.1 hq];exact⟨_,_,_,rfl⟩
end Go.Dw
namespace Go.Dw
open Go Go.Dx Go.Proofs
set_option maxRecDepth 100000
theorem ZOM {ad:Option Addr}{cap:Nat}{l:List WkR}{h:Heap}{a b:Str}(hR:ZC0 h ad l)(hf:∀x∈l,x.Fit)(hlen:Len l) :
  Sv Tryz.prog 34 [.slice ad l.length cap,str a,str b] h (RetP fun v h'=>∃v1,v=.tuple ⟨[v1,i64 (ZEy l a b).2]⟩/\ZAA h h' v1 9 1 ((ZEy l a b).1.map str) (ZEy l a b).1.length/\Ext h h'):=by
 refine ZCo fun hw=>?_;have hcl:=ZCB (l:=l)
 have hcg:(chkS l).2=0->∀x∈ZAW (mrgU ltW l),ZAw x=0:=fun hc=>by
  have h1:=ZCB hc;have h2:=ZCh (l:=l) (i:=0) (by unfold chkS at hc;rw[if_neg (by omega)] at hc;exact hc);exact fun x hx=>h2 x (ZCZ hx)
 refine ZAG Tryz.func34 rfl (by rw[Tryz.ntmps34];rfl) ?_;show Wc Tryz.prog ⟨34,40,none⟩ _ _ _ _ _;refine zy ?_;refine ZAU rfl rfl rfl rfl rfl Bod.h rfl rfl (ZHW hR hf hlen) fun h1 hE1=>?_;refine zy ?_;refine ZAL rfl rfl rfl rfl (ZBF rfl rfl) (fun hc=>?_) (fun hc=>?_)
 ·have hs:ZEy l a b=([],(chkS l).2):=if_pos hc
  rw[hs];refine zy ?_;exact ZAE (ZAF rfl ⟨_,rfl,ZAA.nil _ _ _ _,hE1⟩)
 have hc0:(chkS l).2=0:=Decidable.not_not.1 hc;have hs:ZEy l a b=if ZCf (ZAW (mrgU ltW l)) a=false\/ZCf (ZAW (mrgU ltW l)) b=false then ([],4) else (ZBW (nxtW (ZAW (mrgU ltW l))) a b (nodW (ZAW (mrgU ltW l))).length,0):=if_neg hc
 replace hcg:=hcg hc0;replace hcl:=hcl hc0;have hsl:(ZAW (mrgU ltW l)).length<=l.length:=ZEA l;have hsf:∀x∈ZAW (mrgU ltW l),x.Fit:=fun x hx=>hf x (ZCZ hx);rw[hs];clear hs;refine zy ?_;refine ZAI rfl rfl rfl rfl rfl Bod.h rfl rfl (ZKM (hR.ext hE1) hf (by omega)) ?_;rintro _ h2 ⟨⟨a8,a4,rfl,hS8,-⟩,hE2⟩;generalize ZAW (mrgU ltW l)=S at *;have hnm:=ZRB hcg;have hE12:=hE1.trans hE2;refine zy ?_;refine ZAI rfl rfl rfl rfl rfl Bod.h rfl rfl (ZLx hS8.1 (by omega)) ?_;rintro v3 h3 ⟨hF3,hE3⟩;obtain⟨a3,rfl,-,hl3⟩:=ZAA.list (enc:=str) hF3;have hnl:(mrgU ltB (namN S)).length<=400:=Nat.le_trans (ZBp ZAP _) (Nat.le_trans (ZM8 S) (by omega))
 have hE13:=hE12.trans hE3
 have hdec:∀k,decide (k∈mrgU ltB (namN S))=ZCf S k:=fun k=>by
  rw[Bool.eq_iff_iff,decide_eq_true_iff,ZBN ZAP,hnm]
 have hha:=ZLi (cap:=(mrgU ltB (namN S)).length) (k:=a) hl3 (show _<_ by omega);have hhb:=ZLi (cap:=(mrgU ltB (namN S)).length) (k:=b) hl3 (show _<_ by omega);rw[hdec] at hha hhb;refine zy ?_;refine ZAR rfl rfl rfl rfl rfl Bod.h rfl rfl hha ?_
 cases ca:ZCf S a with
 | false =>
  rw[if_pos (.inl rfl)];refine zy ?_;exact ZAE (ZAF rfl ⟨_,rfl,ZAA.nil _ _ _ _,hE13⟩)
 | true =>
  refine zy ?_;refine ZAR rfl rfl rfl rfl rfl Bod.h rfl rfl hhb ?_
  cases cb:ZCf S b with
  | false =>
   rw[if_pos (.inr rfl)];refine zy ?_;exact ZAE (ZAF rfl ⟨_,rfl,ZAA.nil _ _ _ _,hE13⟩)
  | true =>
   rw[if_neg (by simp)];have han:a∈nodW S:=by
    unfold ZCf at ca;rw[Bool.and_eq_true] at ca;exact of_decide_eq_true ca.1
   refine zy ?_;refine ZAI rfl rfl rfl rfl rfl Bod.h rfl rfl (ZHB (b:=b) ((ZAv.ext (fun hr _=>hr) hS8.1 hE3)) hsf (by omega) han (ZJ6 hcg) (Nat.le_trans (ZEj S) (by omega))) ?_;rintro v5 h5 ⟨hF5,hE5⟩;refine zy ?_;exact ZAE (ZAF rfl ⟨_,rfl,hF5.base hE13.2.1,hE13.trans hE5⟩)
end Go.Dw
