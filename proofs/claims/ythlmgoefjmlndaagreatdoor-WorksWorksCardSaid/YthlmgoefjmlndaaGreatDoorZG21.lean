/- J1: contracts: the reference's lists of strings in order: put, has. -/
import Derived.Test.YthlmgoefjmlndaaGreatDoorZG2
import Derived.Test.YthlmgoefjmlndaaGreatDoorZG20
import Derived.Test.YthlmgoefjmlndaaGreatDoorZG13
import Derived.Test.YthlmgoefjmlndaaGreatDoorZG18
import Derived.Test.YthlmgoefjmlndaaGreatDoorZG17
set_option linter.unusedVariables false
set_option linter.unusedSimpArgs false
namespace Go.Dw
open Go Go.Dx Go.Proofs
set_option maxRecDepth 100000
theorem ZSF {b:Nat}{sp:Option Nat}(hsp:sp=none\/sp=some 1){h':Heap}{m:Mem}{d:Option Tmp}{ty:TypeId}{pos:String}{af:Array Edge}{gu:Option (Nat×Bool)}{x j:Operand}(hx:opk h' m x=some (.slice (some ⟨b,0,sp⟩) 0 0))(hj:opk h' m j=some (i64 0)):Aop Tryz.prog ⟨d,.slice 38 x none (some j) none,ty,pos,af,gu⟩ m h' (.slice (some ⟨b,0,sp⟩) 0 0) h' :=
 ZAf fun e hs=>by
  show ZBV Tryz.prog _ h' e _ x none (some j) none=_
  unfold ZBV;simp only[ZAJ hs hx,opvo,ZAJ hs hj];have hu:Tryz.prog.underlying 38=some (.slice 9):=Und.h;have hz:tsz Tryz.prog 9=some 1:=Tsz.h;have hsb:sb 0 0 none (some (i64 0)) none=some (0,0,0):=rfl;have:ZAu Tryz.prog 38 (.slice (some ⟨b,0,sp⟩) 0 0) none (some (i64 0)) none=some (.slice (some ⟨b,0,sp⟩) 0 0):=by
   unfold ZAu;rw[hu]
   rcases hsp with rfl|rfl
   ·simp only[hsb,hz];rfl
   ·simp only[hsb,hz];rfl
  rw[this]
theorem ZPu {b:Nat}{sp:Option Nat}(hsp:sp=none\/sp=some 1){h':Heap}{m:Mem}{d:Option Tmp}{ty:TypeId}{pos:String}{af:Array Edge}{gu:Option (Nat×Bool)}{x j:Operand}(hx:opk h' m x=some (.slice (some ⟨b,0,sp⟩) 0 0))(hj:opk h' m j=some (i64 0)):Aop Tryz.prog ⟨d,.slice 38 x (some j) none none,ty,pos,af,gu⟩ m h' (.slice (some ⟨b,0,sp⟩) 0 0) h' :=
 ZAf fun e hs=>by
  show ZBV Tryz.prog _ h' e _ x (some j) none none=_
  unfold ZBV;simp only[ZAJ hs hx,opvo,ZAJ hs hj];have hu:Tryz.prog.underlying 38=some (.slice 9):=Und.h;have hz:tsz Tryz.prog 9=some 1:=Tsz.h;have hsb:sb 0 0 (some (i64 0)) none none=some (0,0,0):=rfl;have:ZAu Tryz.prog 38 (.slice (some ⟨b,0,sp⟩) 0 0) (some (i64 0)) none none=some (.slice (some ⟨b,0,sp⟩) 0 0):=by
   unfold ZAu;rw[hu]
   rcases hsp with rfl|rfl
   ·simp only[hsb,hz];rfl
   ·simp only[hsb,hz];rfl
  rw[this]
theorem ZSr {h0 h:Heap}{v:Value}{l:List Str}{i:Nat}(hF:ZAA h0 h v 9 1 (l.map str) l.length)(hi:i<=l.length):∃v',(∀h1 h0',ZAA h0' h1 v 9 1 (l.map str) l.length->asrc Tryz.prog 9 1 38 v' h1=some (i,(l.take i).map str))/\∀{h':Heap}{m:Mem}{d:Option Tmp}{ty:TypeId}{pos:String}{af:Array Edge}{gu:Option (Nat×Bool)}{x j:Operand},opk h' m x=some v->opk h' m j=some (i64 (i:Int))->Aop Tryz.prog ⟨d,.slice 38 x none (some j) none,ty,pos,af,gu⟩ m h' v' h':=by
 rcases Nat.eq_zero_or_pos l.length with hz|hpos
 ·have hL:l=[]:=List.eq_nil_of_length_eq_zero hz
  subst hL;obtain rfl:i=0:=Nat.le_zero.1 hi;refine⟨v,fun h1 h0' hF1=>hF1.src (dd:=.slice 9) Und.h (by intro k;simp),fun hx hj=>?_⟩
  rcases hF with ⟨rfl,-,-⟩|⟨b,sp,op,rfl,-,-,-,hsp⟩
  ·exact ZMl Und.h Tsz.h hx hj
  ·exact ZSF hsp hx hj
 ·obtain⟨w1,hz1,hA1⟩:=ZPV (P:=Tryz.prog) (ki:=.i64) (t:=38) (tX:=38) (dd:=.slice 9) hF hpos Und.h Tsz.h Und.h (by intro k;simp) hi
  rw[<-List.map_take] at hz1;exact⟨w1,hz1,hA1⟩
theorem ZQJ {h0 h:Heap}{v:Value}{l:List Str}{i:Nat}(hF:ZAA h0 h v 9 1 (l.map str) l.length)(hi:i<=l.length):∃v',(∀h1 h0',ZAA h0' h1 v 9 1 (l.map str) l.length->asrc Tryz.prog 9 1 38 v' h1=some (l.length-i,(l.drop i).map str))/\∀{h':Heap}{m:Mem}{d:Option Tmp}{ty:TypeId}{pos:String}{af:Array Edge}{gu:Option (Nat×Bool)}{x j:Operand},opk h' m x=some v->opk h' m j=some (i64 (i:Int))->Aop Tryz.prog ⟨d,.slice 38 x (some j) none none,ty,pos,af,gu⟩ m h' v' h':=by
 rcases Nat.eq_zero_or_pos l.length with hz|hpos
 ·have hL:l=[]:=List.eq_nil_of_length_eq_zero hz
  subst hL;obtain rfl:i=0:=Nat.le_zero.1 hi;refine⟨v,fun h1 h0' hF1=>hF1.src (dd:=.slice 9) Und.h (by intro k;simp),fun hx hj=>?_⟩
  rcases hF with ⟨rfl,-,-⟩|⟨b,sp,op,rfl,-,-,-,hsp⟩
  ·exact ZIM Und.h Tsz.h hx hj
  ·exact ZPu hsp hx hj
 ·obtain⟨w1,hz1,hA1⟩:=ZLK (P:=Tryz.prog) (ki:=.i64) (t:=38) (tX:=38) (dd:=.slice 9) hF hpos Und.h Tsz.h Und.h (by intro k;simp) hi
  rw[<-List.map_drop] at hz1;exact⟨w1,hz1,hA1⟩
theorem ZMx {x:Str}:∀{L:List Str}{i:Nat},i<=L.length->(∀j (hj:j<L.length),j<i->ltB L[j] x)->(∀h:i<L.length,¬ltB L[i] x)->insU ltB x L=if ∃h:i<L.length,L[i]=x then L else L.take i++x::L.drop i
 | [],i,hi,_,_=>by
  obtain rfl:i=0:=Nat.le_zero.1 hi;rw[if_neg (fun ⟨h,_⟩=>absurd h (Nat.not_lt_zero _))]
  rfl
 | y::L,0,_,_,h2=>by
  have:¬ltB y x:=h2 (Nat.zero_lt_succ _);rw[insU,if_neg this]
  by_cases e:y=x
  ·rw[if_pos e,if_pos ⟨Nat.zero_lt_succ _,e⟩]
  ·rw[if_neg e,if_neg (fun ⟨_,q⟩=>e q)];rfl
 | y::L,i+1,hi,h1,h2=>by
  have hy:ltB y x:=h1 0 (Nat.zero_lt_succ _) (Nat.zero_lt_succ _);rw[insU,if_pos hy,ZMx (L:=L) (i:=i) (Nat.le_of_succ_le_succ hi) (fun j hj hlt=>h1 (j+1) (Nat.succ_lt_succ hj) (Nat.succ_lt_succ hlt)) (fun h=>h2 (Nat.succ_lt_succ h))]
  by_cases e:∃h:i<L.length,L[i]=x
  ·obtain⟨h,q⟩:=e
   rw[if_pos ⟨h,q⟩,if_pos ⟨Nat.succ_lt_succ h,q⟩]
  ·rw[if_neg e,if_neg (fun ⟨h,q⟩=>e ⟨Nat.lt_of_succ_lt_succ h,q⟩)]
   rfl
theorem ZLm {a:Option Addr}{cap:Nat}{l:List Str}{k:Str}{h:Heap}(hR:ZAz str h a l)(hlen:Len l):Sv Tryz.prog 67 [.slice a l.length cap,str k] h (RetP fun v h'=>v=.bool (decide (k∈l))/\h'=h):=by
 refine ZAG Tryz.func67 rfl (by rw[Tryz.ntmps67];rfl) ?_;show Wc Tryz.prog ⟨67,18,none⟩ _ _ _ _ _;refine zy ?_;refine ZAQ (fun (j:Nat) m ds h'=>ds=[]/\h=h'/\j<=l.length/\k ∉ l.take j/\AllK m [(0,.slice a l.length cap),(1,str k),(5,i64 (j:Nat))]) (fun j=>l.length-j) 0 ?_ ?_
 ·exact⟨rfl,rfl,Nat.zero_le _,by simp,rfl,rfl,rfl,trivial⟩
 rintro j m ds h' ⟨rfl,rfl,hj,hno,hall⟩;refine Wc.le ?_ (Le.kn hall);clear hall;refine zy ?_;refine ZAM rfl rfl rfl rfl (ZAY rfl rfl) (fun hjl=>?_) (fun hjl=>?_);rotate_left
 ·refine zy ?_
  have:j=l.length:=by omega
  subst this;rw[List.take_length] at hno;exact ZAE (ZAF rfl ⟨by rw[decide_eq_false hno];rfl,rfl⟩)
 have hj':j<l.length:=by omega
 obtain⟨b,o,oa,rfl,hc⟩:=hR j hj';have htk:l.take (j+1)=l.take j++[l[j]]:=by rw[List.take_add_one,List.getElem?_eq_getElem hj'];rfl
 have hmem:l[j]∈l:=List.getElem_mem hj';generalize l[j]=x at *;refine zy ?_;refine ZAC rfl rfl rfl rfl (A_ix Und.h Tsz.h rfl rfl) ?_;refine zy ?_
 by_cases he:x=k
 ·subst he
  refine ZAC rfl rfl rfl rfl (A_tt rfl (ZAZ rfl rfl)) ?_;refine zy ?_;exact ZAE (ZAF rfl ⟨by rw[decide_eq_true hmem];rfl,rfl⟩)
 ·refine ZAC rfl rfl rfl rfl (A_ff he (ZAZ rfl rfl)) ?_
  refine zy ?_;refine⟨j+1,(by show l.length-(j+1)<l.length-j;omega),rfl,rfl,hj',?_,rfl,rfl,rfl,trivial⟩;rw[htk,List.mem_append,List.mem_singleton];rintro (q|q)
  ·exact hno q
  ·exact he q.symm
theorem ZCb {h0 h:Heap}{v:Value}{L:List Str}{y:Str}(hF:ZAA h0 h v 9 1 (L.map str) L.length)(hE0:Ext h0 h)(hlen:L.length<=1000000) :
  Sv Tryz.prog 115 [v,str y] h (RetP fun v' h'=>ZAA h0 h' v' 9 1 ((insU ltB y L).map str) (insU ltB y L).length/\Ext h h'/\(v'=v\/∀c,ZA2 v'=some c->h.nx<=c)):=by
 refine ZCi fun hw=>?_;obtain⟨aL,hv,-,hl⟩:=ZAA.list (enc:=str) hF;refine ZAG Tryz.func115 rfl (by rw[Tryz.ntmps115];rfl) ?_;show Wc Tryz.prog ⟨115,45,none⟩ _ _ _ _ _;subst hv;refine zy ?_
 refine Wc.mono (Q:=fun z m' ds' h'=>z=.exit 0/\ds'=[]/\h=h'/\∃i,i<=L.length/\(∀j (hj:j<L.length),j<i->ltB L[j] y)/\(∀h:i<L.length,¬ltB L[i] y) ∧
   AllK m' [(0,.slice aL L.length L.length),(1,str y),(5,i64 i)]) ?_ ?_
 ·refine ZAQ (fun (i:Nat) m ds h'=>ds=[]/\h=h'/\i<=L.length/\(∀j (hj:j<L.length),j<i->ltB L[j] y) ∧
    AllK m [(0,.slice aL L.length L.length),(1,str y),(5,i64 i)]) (fun i=>L.length-i) 0 ?_ ?_
  ·exact⟨rfl,rfl,Nat.zero_le _,(fun _ _ hj=>by omega),rfl,rfl,rfl,trivial⟩
  rintro i m ds h' ⟨rfl,rfl,hi,hlo,hall⟩;refine Wc.le ?_ (Le.kn hall);clear hall;refine zy ?_
  by_cases h6:i<L.length
  rotate_left
  ·refine ZAC rfl rfl rfl rfl (A_ff (by omega) (ZAY rfl rfl)) ?_
   refine zy ?_;exact⟨rfl,rfl,rfl,i,hi,hlo,(fun h=>absurd h h6),rfl,rfl,rfl,trivial⟩
  obtain⟨b,o,oa,rfl,hc⟩:=hl i h6;refine ZAC rfl rfl rfl rfl (A_tt (by omega) (ZAY rfl rfl)) ?_;refine zy ?_;refine ZAC rfl rfl rfl rfl (A_ix Und.h Tsz.h rfl rfl) ?_;refine zy ?_
  by_cases h7:ltB L[i] y
  ·refine ZAC rfl rfl rfl rfl (A_tt h7 (ZEC rfl rfl)) ?_
   refine zy ?_;refine⟨i+1,(by show L.length-(i+1)<L.length-i;omega),rfl,rfl,h6,?_,rfl,rfl,rfl,trivial⟩;intro j hj hlt
   rcases Nat.lt_or_ge j i with g|g
   ·exact hlo j hj g
   ·have:j=i:=by omega
    subst this;exact h7
  ·refine ZAC rfl rfl rfl rfl (A_ff h7 (ZEC rfl rfl)) ?_
   refine zy ?_;exact⟨rfl,rfl,rfl,i,hi,hlo,(fun _=>h7),rfl,rfl,rfl,trivial⟩
 rintro _ m _ _ ⟨rfl,rfl,rfl,i,hi,hlo,hhi,hall⟩
 show Wc _ _ _ _ _ _ _
 refine Wc.le ?_ (Le.kn hall);have hins:=ZMx hi hlo hhi;clear hlo hhi hall
 by_cases hsame:∃h:i<L.length,L[i]=y
 ·rw[if_pos hsame] at hins
  obtain⟨h6,he⟩:=hsame;obtain⟨b,o,oa,rfl,hc⟩:=hl i h6;rw[he] at hc;refine zy ?_;refine ZAC rfl rfl rfl rfl (A_tt (by omega) (ZAY rfl rfl)) ?_;refine zy ?_;refine ZAC rfl rfl rfl rfl (A_ix Und.h Tsz.h rfl rfl) ?_;refine zy ?_;refine ZAC rfl rfl rfl rfl (A_tt rfl (ZAZ rfl rfl)) ?_;refine zy ?_;exact ZAE (ZAF rfl ⟨by rw[hins];exact hF,Ext.refl _,.inl rfl⟩)
 rw[if_neg hsame] at hins;have hti:(L.take i).length=i:=by rw[List.length_take];omega
 have hdi:(L.drop i).length=L.length-i:=List.length_drop;refine ZGS (Wc.mono (Q:=fun z m' ds' h'=>z=.normal/\ds'=[]/\h=h'/\AllK m' [(0,.slice aL L.length L.length),(1,str y),(5,i64 i)]) ?_ ?_)
 ·by_cases h6:i<L.length
  ·have hne:¬L[i]=y:=fun e=>hsame ⟨h6,e⟩
   obtain⟨b,o,oa,rfl,hc⟩:=hl i h6;refine zy ?_;refine ZAC rfl rfl rfl rfl (A_tt (by omega) (ZAY rfl rfl)) ?_;refine zy ?_;refine ZAC rfl rfl rfl rfl (A_ix Und.h Tsz.h rfl rfl) ?_;refine zy ?_;refine ZAC rfl rfl rfl rfl (A_ff hne (ZAZ rfl rfl)) ?_;refine zy ?_;exact⟨rfl,rfl,rfl,rfl,rfl,rfl,trivial⟩
  ·refine zy ?_
   refine ZAC rfl rfl rfl rfl (A_ff (by omega) (ZAY rfl rfl)) ?_;refine zy ?_;exact⟨rfl,rfl,rfl,rfl,rfl,rfl,trivial⟩
 rintro _ m _ _ ⟨rfl,rfl,rfl,hall⟩
 show Wc _ _ _ _ _ _ _
 refine Wc.le ?_ (Le.kn hall);clear hall;obtain⟨w1,hz1,hA1⟩:=ZSr hF hi;obtain⟨w2,hz2,hA2⟩:=ZQJ hF hi;have hEa0:=Ext.add hw (.cells [] 9 false);have hEa:=hEa0.trans (Ext.rsv (Heap.add h (.cells [] 9 false)));have hOa0:Own h (Heap.add h (.cells [] 9 false)) [slI h (.slice (some ⟨h.nx,0,none⟩) 0 0) 9 1 [] 0]:=(Own.nil h h).newSl hw (Nat.le_refl _) hEa0 (ZAA.lit Heap.get_add_same rfl (Nat.le_refl _));have hne:=hOa0.ne (hw.add _) (Nat.le_refl (h.nx+1));refine zy ?_;refine ZAS hmix [0,0,0,6,15,0,32,127,0,0,768,2047,4095] [0,1,2,3,5,6,8,9,10] (some 4) [([],(some 7)),([],(some 11)),([],(some 12)),([],none)] (by kernel_rfl) (by kernel_rfl) ?_
 refine ZDz (nk:=.sl _ _) rfl rfl rfl rfl rfl (fun _ _ hs=>N_bs hs Und.h Tsz.h Zr.h rfl rfl rfl rfl rfl) ?_;refine z_m ?_;refine z_m ?_;refine ZAD rfl rfl rfl rfl rfl (fun _=>hA1 rfl rfl) ?_;refine z_m ?_;refine ZDz (nk:=.sl _ _) rfl rfl rfl rfl rfl (fun _ _ hs=>N_bs hs Und.h Tsz.h Zr.h rfl rfl rfl rfl rfl) ?_;refine z_m ?_;refine z_m ?_;refine ZAD rfl rfl rfl rfl rfl (fun _=>hA2 rfl rfl) ?_;refine ZAK (h1:=(rsv (Heap.add h _))) [0,1,2,3] (by kernel_rfl) rfl (ZAB rfl) rfl rfl (kF (kF (kF (kF (kF (dF (dF (dF (dF nF))))))))) (ZBl (ZIi (n1:=h.nx+1) (by':=16) (sz:=1) (k:=i) (n:=0) (l:=(L.take i).map str) rfl hw hEa rfl rfl rfl rfl Und.h inferInstance rfl rfl (hOa0.ext (Ext.rsv _)) (hz1 _ h0 (hF.ext hEa)) (by rw[List.length_map,hti,Nat.mul_one]) (ZGe _) (by omega) (by omega) hne (Nat.lt_succ_self _) (fun v12 h12 hO13 hE12 hne12 hn12 hw12=>?_)))
 have hU12:=Upd.mk' h12 (h.nx+1) (.cells [str y] 9 false);have hO13':=hO13.other (.cells [str y] 9 false) hne12;have hE12':=hU12.ext hE12 hw (Nat.le_succ _);rw[List.nil_append,Nat.zero_add] at hO13';refine ZAK (h1:=(h12.set (h.nx+1) (.cells [str y] 9 false))) [0,1,2,3,4,5,6] (by kernel_rfl) rfl (by refine ZAm (i:=10) rfl rfl rfl rfl rfl (fun _=>hA2 rfl rfl) rfl ?_;refine t_m 9 ?_;refine t_m 8 ?_;refine ZIx (i:=6) (nk:=.sl _ _) rfl rfl rfl rfl rfl (fun _ _ hs=>N_bs hs Und.h Tsz.h Zr.h rfl rfl rfl rfl rfl) rfl ?_;refine t_m 5 ?_;exact ZAB rfl) rfl rfl (kF (kF (kF (dF (dF nF))))) (ZBl (ZBi (by':=16) (sz:=1) (k:=1) (n:=i) (l:=[str y]) rfl hw hE12' rfl rfl rfl rfl Und.h inferInstance rfl rfl hO13' ((ZAA.lit (h0:=h) (n:=1) (sz:=1) hU12.at' rfl (Nat.le_succ _)).src (dd:=.slice 9) Und.h (by intro k;simp)) rfl rfl (by omega) (by omega) (fun v14 h14 hO15 hE14 hw14=>?_)))
 refine ZAK (h1:=h14) [0,1,2,3,4,5,6,7,8,9,10] (by kernel_rfl) rfl (by refine ZAm (i:=10) rfl rfl rfl rfl rfl (fun _=>hA2 rfl rfl) rfl ?_;refine t_m 9 ?_;refine t_m 8 ?_;exact ZAB rfl) rfl rfl (dF (dF (dF nF))) (ZBl (ZBi (by':=16) (sz:=1) (k:=L.length-i) (n:=i+1) (l:=(L.drop i).map str) rfl hw hE14 rfl rfl rfl rfl Und.h inferInstance rfl rfl hO15 (hz2 _ h0 (hF.ext hE14)) (by rw[List.length_map,hdi,Nat.mul_one]) (ZGe _) (by omega) (by omega) (fun v16 h16 hO17 hE16 hw16=>?_)));refine ZAK (h1:=h16) [0,1,2,3,4,5,6,7,8,9,10,11] (by kernel_rfl) rfl (ZAB rfl) rfl rfl nF (ZDR rfl rfl (ZA9 rfl) ?_);refine ZAU (h1:=h16) (ZAB rfl) rfl ?_
 refine zy ?_;have hF17:ZAA h h16 _ _ _ _ _:=hO17.p1;refine ZAE (ZAF rfl ⟨?_,hE16,.inr fun c hc=>?_⟩);rotate_left
 ·rcases hF17 with ⟨e,-,-⟩|⟨b',sp,op,e,-,-,hb,-⟩
  ·rw[e] at hc;cases hc
  ·rw[e] at hc;cases hc;exact hb
 rw[hins];have e1:(L.take i++y::L.drop i).map str=(L.take i).map str++[str y]++(L.drop i).map str:=by rw[List.map_append,List.map_cons,List.append_assoc];rfl
 have e2:(L.take i++y::L.drop i).length=i+1+(L.length-i):=by rw[List.length_append,List.length_cons,hti,hdi];omega
 rw[e1,e2];exact hF17.base hE0.2.1
def ZH6 (p:Str×Str)(k:Str):List Str:=(if p.1=k then [p.2] else [])++if p.2=k then [p.1] else []
def ZGU (x:WkR)(k:Str):List Str:=if x.kind=1 then ZH6 (tieI x) k else if x.kind=2 then ZH6 (tieS x) k else []
def adjN (s:List WkR)(k:Str):List Str:=s.flatMap fun x=>ZGU x k
theorem ZPD (s:List WkR)(x:WkR)(k:Str):adjN (s++[x]) k=adjN s k++ZGU x k:=by
 unfold adjN;rw[List.flatMap_append,List.flatMap_singleton]
theorem ZJl {p:Str×Str}{k z:Str}:z∈ZH6 p k ↔ p=(k,z)\/p=(z,k):=by
 obtain⟨a,b⟩:=p;unfold ZH6;simp only[List.mem_append,Prod.mk.injEq]
 constructor
 ·rintro (h|h)
  ·split at h
   ·rename_i e;exact .inl ⟨e,(List.mem_singleton.1 h).symm⟩
   ·exact absurd h List.not_mem_nil
  ·split at h
   ·rename_i e;exact .inr ⟨(List.mem_singleton.1 h).symm,e⟩
   ·exact absurd h List.not_mem_nil
 ·rintro (⟨rfl,rfl⟩|⟨rfl,rfl⟩)
  ·left;simp
  ·right;simp
theorem ZQ3 {s:List WkR}{k z:Str}:z∈adjN s k ↔ (k,z)∈edgW s\/(z,k)∈edgW s:=by
 have hE:∀p,p∈edgW s ↔ ∃x∈s,(x.kind=1/\tieI x=p)\/(x.kind=2/\tieS x=p):=fun p=>by
  unfold edgW;simp only[List.mem_append,List.mem_map,ZCt,List.mem_singleton]
  constructor
  ·rintro (⟨x,⟨h1,h2⟩,h3⟩|⟨x,⟨h1,h2⟩,h3⟩)
   ·exact⟨x,h1,.inl ⟨h2,h3⟩⟩
   ·exact⟨x,h1,.inr ⟨h2,h3⟩⟩
  ·rintro⟨x,h1,⟨h2,h3⟩|⟨h2,h3⟩⟩
   ·exact .inl ⟨x,⟨h1,h2⟩,h3⟩
   ·exact .inr ⟨x,⟨h1,h2⟩,h3⟩
 have h1:∀x,z∈ZGU x k ↔ (x.kind=1/\(tieI x=(k,z)\/tieI x=(z,k)))\/(x.kind=2/\(tieS x=(k,z)\/tieS x=(z,k))):=fun x=>by
  unfold ZGU
  split
  ·rename_i h;rw[ZJl];constructor
   ·exact fun q=>.inl ⟨h,q⟩
   ·rintro (⟨-,q⟩|⟨q,-⟩)
    ·exact q
    ·omega
  ·rename_i h;split
   ·rename_i h2;rw[ZJl];constructor
    ·exact fun q=>.inr ⟨h2,q⟩
    ·rintro (⟨q,-⟩|⟨-,q⟩)
     ·exact absurd q h
     ·exact q
   ·rename_i h2;constructor
    ·exact fun q=>absurd q List.not_mem_nil
    ·rintro (⟨q,-⟩|⟨q,-⟩)
     ·exact absurd q h
     ·exact absurd q h2
 unfold adjN;rw[List.mem_flatMap,hE,hE]
 constructor
 ·rintro⟨x,hx,hz⟩
  rcases (h1 x).1 hz with ⟨q,e|e⟩|⟨q,e|e⟩
  ·exact .inl ⟨x,hx,.inl ⟨q,e⟩⟩
  ·exact .inr ⟨x,hx,.inl ⟨q,e⟩⟩
  ·exact .inl ⟨x,hx,.inr ⟨q,e⟩⟩
  ·exact .inr ⟨x,hx,.inr ⟨q,e⟩⟩
 ·rintro (⟨x,hx,⟨q,e⟩|⟨q,e⟩⟩|⟨x,hx,⟨q,e⟩|⟨q,e⟩⟩)
  ·exact⟨x,hx,(h1 x).2 (.inl ⟨q,.inl e⟩)⟩
  ·exact⟨x,hx,(h1 x).2 (.inr ⟨q,.inl e⟩)⟩
  ·exact⟨x,hx,(h1 x).2 (.inl ⟨q,.inr e⟩)⟩
  ·exact⟨x,hx,(h1 x).2 (.inr ⟨q,.inr e⟩)⟩
theorem ZRm (s:List WkR)(k:Str):mrgU ltB (adjN s k)=nxtW s k:=ZOM ZAL fun e=>by rw[ZQ3,ZMe]
theorem ZQQ (s:List WkR)(k:Str):(adjN s k).length<=2*s.length:=by
 induction s with
 | nil=>exact Nat.le_refl _
 | cons x s ih =>
  unfold adjN at ih ⊢;rw[List.flatMap_cons,List.length_append,List.length_cons]
  have hp:∀p:Str×Str,(ZH6 p k).length<=2:=fun p=>by
   unfold ZH6;rw[List.length_append]
   have h1:(if p.1=k then [p.2] else []).length<=1:=by split <;> simp
   have h2:(if p.2=k then [p.1] else []).length<=1:=by split <;> simp
   omega
  have:(ZGU x k).length<=2:=by
   unfold ZGU
   split
   ·exact hp _
   ·split
    ·exact hp _
    ·exact Nat.zero_le _
  omega
theorem ZMk (A:List Str)(p:Str×Str)(k:Str):mrgU ltB (A++ZH6 p k)=if p.2=k then insU ltB p.1 (if p.1=k then insU ltB p.2 (mrgU ltB A) else mrgU ltB A) else if p.1=k then insU ltB p.2 (mrgU ltB A) else mrgU ltB A:=by
 unfold ZH6
 by_cases e1:p.1=k <;> by_cases e2:p.2=k <;> simp only[e1,e2,if_true,if_false,List.append_nil,List.nil_append,<-List.append_assoc,ZBE]
theorem ZFc (x:Str)(L:List Str):(insU ltB x L).length<=L.length+1:=by
 induction L with
 | nil=>exact Nat.le_refl _
 | cons y L ih =>
  rw[insU]
  split
  ·simp only[List.length_cons];omega
  ·split <;> simp only[List.length_cons] <;> omega
set_option maxHeartbeats 2000000 in
theorem ZSe {a:Option Addr}{cap:Nat}{s:List WkR}{k:Str}{h:Heap}(hR:ZC1 h a s)(hf:∀x∈s,x.Fit)(hlen:s.length<=100000) :
  Sv Tryz.prog 116 [.slice a s.length cap,str k] h (RetP fun v h'=>ZAA h h' v 9 1 ((nxtW s k).map str) (nxtW s k).length/\Ext h h'):=by
 rw[<-ZRm];refine ZAG Tryz.func116 rfl (by rw[Tryz.ntmps116];rfl) ?_;show Wc Tryz.prog ⟨116,60,none⟩ _ _ _ _ _;refine zy ?_
 refine ZAQ (fun (st:Nat×Value) m ds h'=>ds=[]/\Ext h h'/\st.1<=s.length/\ZAA h h' st.2 9 1 ((mrgU ltB (adjN (s.take st.1) k)).map str) (mrgU ltB (adjN (s.take st.1) k)).length ∧
   AllK m [(0,.slice a s.length cap),(1,str k),(5,st.2),(6,i64 st.1)]) (fun st=>s.length-st.1) (0,.slice none 0 0) ?_ ?_
 ·exact⟨rfl,Ext.refl _,Nat.zero_le _,ZAA.nil _ _ _ _,rfl,rfl,rfl,rfl,trivial⟩
 rintro⟨j,v⟩ m ds h1 ⟨rfl,hE1,hj,hF1,hall⟩;simp only at hj hF1 hall;refine Wc.le ?_ (Le.kn hall);clear hall;refine zy ?_;refine ZAM rfl rfl rfl rfl (ZAY rfl rfl) (fun hjl=>?_) (fun hjl=>?_);rotate_left
 ·have:j=s.length:=by omega
  subst this;rw[List.take_length] at hF1;refine zy ?_;exact ZAE (ZAF rfl ⟨hF1,hE1⟩)
 have hj':j<s.length:=by omega
 have htk:adjN (s.take (j+1)) k=adjN (s.take j) k++ZGU s[j] k:=by
  rw[List.take_add_one,List.getElem?_eq_getElem hj'];exact ZPD _ _ _
 have hln:(mrgU ltB (adjN (s.take j) k)).length<=200000:=Nat.le_trans (ZBJ ZAL _) (Nat.le_trans (ZQQ _ _) (by rw[List.length_take];omega));have hxf:=hf _ (List.getElem_mem hj');obtain⟨b,o,oa,rfl,row,hrow0,hx⟩:=hR j hj';have hrow:=hE1.row hrow0;have ex:row=rowW s[j]:=hx;clear hx hrow0;generalize s[j]=x at *;subst ex;have hc4:ZAa h1 b (o+j*6+4)=some (str x.a):=ZAP (k:=4) hrow rfl;have hc5:ZAa h1 b (o+j*6+5)=some (str x.b):=ZAP (k:=5) hrow rfl;have hc3:ZAa h1 b (o+j*6+3)=some (i64 x.kind):=ZAP (k:=3) hrow rfl;refine zy ?_;refine ZAS hmix [0,0,3,7,15,0,0,96,224,480,31,2047] [0,1,2,3,4,5,6,7,8,9] (some 10) [([],(some 11)),([],none)] (by kernel_rfl) (by kernel_rfl) ?_
 refine z_m ?_;refine z_m ?_;refine ZAD rfl rfl rfl rfl rfl (fun _=>A_ix (k:=j) Und.h Tsz.h rfl rfl) ?_;refine z_f ?_;refine z_l ?_;refine z_m ?_;refine z_m ?_;refine ZAD rfl rfl rfl rfl rfl (fun _=>A_ix (k:=j) Und.h Tsz.h rfl rfl) ?_;refine z_f ?_;refine z_l ?_;refine ZAK [0,1,2,3,4] (by kernel_rfl) rfl (ZAB rfl) rfl nb (kF (kF (kF (kF (kF (dF (dF (dF (dF (dF nF)))))))))) (ZDR rfl rfl (ZA9 rfl) ?_);refine ZAK [0,1,2,3,4,5,6,7,8,9,10] (by kernel_rfl) rfl (by refine t_l 9 ?_;refine t_f 8 ?_;refine ZAm (i:=7) rfl rfl rfl rfl rfl (fun _=>A_ix (k:=j) Und.h Tsz.h rfl rfl) rfl ?_;refine t_m 6 ?_;refine t_m 5 ?_;exact ZAB rfl) rfl nb (dF (dF (dF (dF (dF nF))))) (ZDR rfl rfl (ZA9 rfl) ?_)
 refine ZAU (ZAB rfl) nb' ?_;refine zy ?_;refine ZAC rfl rfl rfl rfl (A_ix Und.h Tsz.h rfl rfl) ?_;refine zy ?_
 by_cases c1:x.kind=1
 ·have ha:ZGU x k=ZH6 (tieI x) k:=if_pos c1
  refine ZAC rfl rfl rfl rfl (A_tt c1 (ZAb rfl rfl)) ?_;refine zy ?_;refine ZAC rfl rfl rfl rfl (ZM6 rfl rfl (by have:=hxf.a;show 1+x.a.length<_;omega)) ?_;refine zy ?_;refine ZAC rfl rfl rfl rfl (A_ix Und.h Tsz.h rfl rfl) ?_;refine zy ?_;refine ZAC rfl rfl rfl rfl (A_ff (fun q=>q c1) (ZBZ rfl rfl)) ?_;refine zy ?_;have hm:=ZMk (adjN (s.take j) k) (tieI x) k;rw[<-ha,<-htk] at hm
  by_cases e1:((tieI x)).1=k
  ·rw[if_pos e1] at hm
   refine ZAC rfl rfl rfl rfl (A_tt e1 (ZAZ rfl rfl)) ?_;refine zy ?_;refine ZAI rfl rfl rfl rfl rfl Bod.h rfl rfl (ZCb (y:=x.b) hF1 hE1 (by omega)) ?_;rintro v2 h2 ⟨hF2,hE2,-⟩;have hl2:=ZFc x.b (mrgU ltB (adjN (s.take j) k));have hE12:=hE1.trans hE2;refine zy ?_
   by_cases e2:((tieI x)).2=k
   ·rw[if_pos e2] at hm
    refine ZAC rfl rfl rfl rfl (A_tt e2 (ZAZ rfl rfl)) ?_;refine zy ?_;refine ZAI rfl rfl rfl rfl rfl Bod.h rfl rfl (ZCb (y:=(35::x.a)) hF2 hE12 (by omega)) ?_;rintro v3 h3 ⟨hF3,hE3,-⟩;refine zy ?_;exact⟨(j+1,v3),(by show s.length-(j+1)<s.length-j;omega),rfl,hE12.trans hE3,hj',(by simp only;rw[hm];exact hF3),rfl,rfl,rfl,rfl,trivial⟩
   ·rw[if_neg e2] at hm
    refine ZAC rfl rfl rfl rfl (A_ff e2 (ZAZ rfl rfl)) ?_;refine zy ?_;exact⟨(j+1,v2),(by show s.length-(j+1)<s.length-j;omega),rfl,hE12,hj',(by simp only;rw[hm];exact hF2),rfl,rfl,rfl,rfl,trivial⟩
  ·rw[if_neg e1] at hm
   refine ZAC rfl rfl rfl rfl (A_ff e1 (ZAZ rfl rfl)) ?_;refine zy ?_
   by_cases e2:((tieI x)).2=k
   ·rw[if_pos e2] at hm
    refine ZAC rfl rfl rfl rfl (A_tt e2 (ZAZ rfl rfl)) ?_;refine zy ?_;refine ZAI rfl rfl rfl rfl rfl Bod.h rfl rfl (ZCb (y:=(35::x.a)) hF1 hE1 (by omega)) ?_;rintro v3 h3 ⟨hF3,hE3,-⟩;refine zy ?_;exact⟨(j+1,v3),(by show s.length-(j+1)<s.length-j;omega),rfl,hE1.trans hE3,hj',(by simp only;rw[hm];exact hF3),rfl,rfl,rfl,rfl,trivial⟩
   ·rw[if_neg e2] at hm
    refine ZAC rfl rfl rfl rfl (A_ff e2 (ZAZ rfl rfl)) ?_;refine zy ?_;exact⟨(j+1,_),(by show s.length-(j+1)<s.length-j;omega),rfl,hE1,hj',(by simp only;rw[hm];exact hF1),rfl,rfl,rfl,rfl,trivial⟩
 refine ZAC rfl rfl rfl rfl (A_ff c1 (ZAb rfl rfl)) ?_;refine zy ?_;refine ZAC rfl rfl rfl rfl (A_ix Und.h Tsz.h rfl rfl) ?_;refine zy ?_;refine ZAC rfl rfl rfl rfl (A_tt c1 (ZBZ rfl rfl)) ?_;refine zy ?_;refine ZAC rfl rfl rfl rfl (A_ix Und.h Tsz.h rfl rfl) ?_;refine zy ?_
 by_cases c2:x.kind=2
 ·have ha:ZGU x k=ZH6 (tieS x) k:=by unfold ZGU;rw[if_neg c1,if_pos c2]
  refine ZAC rfl rfl rfl rfl (A_ff (fun q=>q c2) (ZBZ rfl rfl)) ?_;refine zy ?_;have hm:=ZMk (adjN (s.take j) k) (tieS x) k;rw[<-ha,<-htk] at hm
  by_cases e1:((tieS x)).1=k
  ·rw[if_pos e1] at hm
   refine ZAC rfl rfl rfl rfl (A_tt e1 (ZAZ rfl rfl)) ?_;refine zy ?_;refine ZAI rfl rfl rfl rfl rfl Bod.h rfl rfl (ZCb (y:=x.b) hF1 hE1 (by omega)) ?_;rintro v2 h2 ⟨hF2,hE2,-⟩;have hl2:=ZFc x.b (mrgU ltB (adjN (s.take j) k));have hE12:=hE1.trans hE2;refine zy ?_
   by_cases e2:((tieS x)).2=k
   ·rw[if_pos e2] at hm
    refine ZAC rfl rfl rfl rfl (A_tt e2 (ZAZ rfl rfl)) ?_;refine zy ?_;refine ZAI rfl rfl rfl rfl rfl Bod.h rfl rfl (ZCb (y:=x.a) hF2 hE12 (by omega)) ?_;rintro v3 h3 ⟨hF3,hE3,-⟩;refine zy ?_;exact⟨(j+1,v3),(by show s.length-(j+1)<s.length-j;omega),rfl,hE12.trans hE3,hj',(by simp only;rw[hm];exact hF3),rfl,rfl,rfl,rfl,trivial⟩
   ·rw[if_neg e2] at hm
    refine ZAC rfl rfl rfl rfl (A_ff e2 (ZAZ rfl rfl)) ?_;refine zy ?_;exact⟨(j+1,v2),(by show s.length-(j+1)<s.length-j;omega),rfl,hE12,hj',(by simp only;rw[hm];exact hF2),rfl,rfl,rfl,rfl,trivial⟩
  ·rw[if_neg e1] at hm
   refine ZAC rfl rfl rfl rfl (A_ff e1 (ZAZ rfl rfl)) ?_;refine zy ?_
   by_cases e2:((tieS x)).2=k
   ·rw[if_pos e2] at hm
    refine ZAC rfl rfl rfl rfl (A_tt e2 (ZAZ rfl rfl)) ?_;refine zy ?_;refine ZAI rfl rfl rfl rfl rfl Bod.h rfl rfl (ZCb (y:=x.a) hF1 hE1 (by omega)) ?_;rintro v3 h3 ⟨hF3,hE3,-⟩;refine zy ?_;exact⟨(j+1,v3),(by show s.length-(j+1)<s.length-j;omega),rfl,hE1.trans hE3,hj',(by simp only;rw[hm];exact hF3),rfl,rfl,rfl,rfl,trivial⟩
   ·rw[if_neg e2] at hm
    refine ZAC rfl rfl rfl rfl (A_ff e2 (ZAZ rfl rfl)) ?_;refine zy ?_;exact⟨(j+1,_),(by show s.length-(j+1)<s.length-j;omega),rfl,hE1,hj',(by simp only;rw[hm];exact hF1),rfl,rfl,rfl,rfl,trivial⟩
 have ha:ZGU x k=[]:=by unfold ZGU;rw[if_neg c1,if_neg c2]
 rw[ha,List.append_nil] at htk;refine ZAC rfl rfl rfl rfl (A_tt c2 (ZBZ rfl rfl)) ?_;refine zy ?_;exact⟨(j+1,_),(by show s.length-(j+1)<s.length-j;omega),rfl,hE1,hj',(by simp only;rw[htk];exact hF1),rfl,rfl,rfl,rfl,trivial⟩
def namA (x:WkR):List Str:=if x.kind=2\/x.kind=3\/x.kind=4 then [x.a] else []
def namB (x:WkR):List Str:=if x.kind=2\/x.kind=3\/x.kind=1 then [x.b] else []
def namN (s:List WkR):List Str:=s.flatMap fun x=>namA x++namB x
theorem ZOk (s:List WkR)(x:WkR):namN (s++[x])=namN s++namA x++namB x:=by
 unfold namN;rw[List.flatMap_append,List.flatMap_singleton,List.append_assoc]
theorem ZQi (s:List WkR):(namN s).length<=2*s.length:=by
 induction s with
 | nil=>exact Nat.le_refl _
 | cons x s ih =>
  unfold namN at ih ⊢;rw[List.flatMap_cons,List.length_append,List.length_append,List.length_cons];have h1:(namA x).length<=1:=by unfold namA;split <;> simp
  have h2:(namB x).length<=1:=by unfold namB;split <;> simp
  omega
theorem ZQa {s:List WkR}(hg:∀x∈s,ZAy x=0)(k:Str):k∈namN s ↔ ZFd s k=true:=by
 have hn:ZFd s k=true ↔ k∈nodW s/\ZAo k=false:=by
  unfold ZFd ZAo;rw[Bool.and_eq_true,decide_eq_true_iff,Bool.not_eq_true']
 rw[hn];have hm:k∈namN s ↔ ∃x∈s,(k=x.a/\(x.kind=2\/x.kind=3\/x.kind=4))\/(k=x.b/\(x.kind=2\/x.kind=3\/x.kind=1)):=by
  unfold namN;rw[List.mem_flatMap]
  constructor
  ·rintro⟨x,hx,h⟩
   rcases List.mem_append.1 h with h|h
   ·unfold namA at h
    split at h
    ·rename_i q;exact⟨x,hx,.inl ⟨List.mem_singleton.1 h,q⟩⟩
    ·exact absurd h List.not_mem_nil
   ·unfold namB at h
    split at h
    ·rename_i q;exact⟨x,hx,.inr ⟨List.mem_singleton.1 h,q⟩⟩
    ·exact absurd h List.not_mem_nil
  ·rintro⟨x,hx,⟨rfl,q⟩|⟨rfl,q⟩⟩
   ·exact⟨x,hx,List.mem_append_left _ (by unfold namA;rw[if_pos q];simp)⟩
   ·exact⟨x,hx,List.mem_append_right _ (by unfold namB;rw[if_pos q];simp)⟩
 rw[hm];have hnod:k∈nodW s ↔ ∃x∈s,(x.kind=1/\(k=35::x.a\/k=x.b))\/(x.kind=2/\(k=x.a\/k=x.b))\/(x.kind=3/\(k=x.a\/k=x.b))\/(x.kind=4/\k=x.a):=by
  unfold nodW edgW;simp only[List.mem_append,ZFQ,List.mem_map,ZCt,List.mem_singleton]
  constructor
  ·rintro ((⟨e,⟨x,⟨hx,hk⟩,rfl⟩|⟨x,⟨hx,hk⟩,rfl⟩,h⟩|⟨e,⟨x,⟨hx,hk⟩,rfl⟩,h⟩)|⟨x,⟨hx,hk⟩,h⟩)
   ·exact⟨x,hx,.inl ⟨hk,h⟩⟩
   ·exact⟨x,hx,.inr (.inl ⟨hk,h⟩)⟩
   ·exact⟨x,hx,.inr (.inr (.inl ⟨hk,h⟩))⟩
   ·exact⟨x,hx,.inr (.inr (.inr ⟨hk,h.symm⟩))⟩
  ·rintro⟨x,hx,⟨hk,h⟩|⟨hk,h⟩|⟨hk,h⟩|⟨hk,h⟩⟩
   ·exact .inl (.inl ⟨tieI x,.inl ⟨x,⟨hx,hk⟩,rfl⟩,h⟩)
   ·exact .inl (.inl ⟨tieS x,.inr ⟨x,⟨hx,hk⟩,rfl⟩,h⟩)
   ·exact .inl (.inr ⟨tieS x,⟨x,⟨hx,hk⟩,rfl⟩,h⟩)
   ·exact .inr ⟨x,⟨hx,hk⟩,h.symm⟩
 rw[hnod]
 constructor
 ·rintro⟨x,hx,⟨rfl,q⟩|⟨rfl,q⟩⟩
  ·have hna:=(ZCE (hg x hx)).2.1
   refine⟨⟨x,hx,?_⟩,ZD3 hna⟩
   rcases q with q|q|q
   ·exact .inr (.inl ⟨q,.inl rfl⟩)
   ·exact .inr (.inr (.inl ⟨q,.inl rfl⟩))
   ·exact .inr (.inr (.inr ⟨q,rfl⟩))
  ·have hnb:=(ZCE (hg x hx)).2.2.1 (by rcases q with q|q|q <;> rw[q] <;> decide) (by rcases q with q|q|q <;> rw[q] <;> decide)
   refine⟨⟨x,hx,?_⟩,ZD3 hnb⟩
   rcases q with q|q|q
   ·exact .inr (.inl ⟨q,.inr rfl⟩)
   ·exact .inr (.inr (.inl ⟨q,.inr rfl⟩))
   ·exact .inl ⟨q,.inr rfl⟩
 ·rintro⟨⟨x,hx,⟨hk,rfl|rfl⟩|⟨hk,rfl|rfl⟩|⟨hk,rfl|rfl⟩|⟨hk,rfl⟩⟩,hh⟩
  ·unfold ZAo at hh
   simp at hh
  ·exact⟨x,hx,.inr ⟨rfl,.inr (.inr hk)⟩⟩
  ·exact⟨x,hx,.inl ⟨rfl,.inl hk⟩⟩
  ·exact⟨x,hx,.inr ⟨rfl,.inl hk⟩⟩
  ·exact⟨x,hx,.inl ⟨rfl,.inr (.inl hk)⟩⟩
  ·exact⟨x,hx,.inr ⟨rfl,.inr (.inl hk)⟩⟩
  ·exact⟨x,hx,.inl ⟨rfl,.inr (.inr hk)⟩⟩
set_option maxHeartbeats 2000000 in
theorem ZLF {a:Option Addr}{cap:Nat}{s:List WkR}{h:Heap}(hR:ZC1 h a s)(hlen:s.length<=100000) :
  Sv Tryz.prog 66 [.slice a s.length cap] h (RetP fun v h'=>ZAA h h' v 9 1 ((mrgU ltB (namN s)).map str) (mrgU ltB (namN s)).length/\Ext h h'):=by
 refine ZAG Tryz.func66 rfl (by rw[Tryz.ntmps66];rfl) ?_;show Wc Tryz.prog ⟨66,52,none⟩ _ _ _ _ _;refine zy ?_
 refine ZAQ (fun (st:Nat×Value) m ds h'=>ds=[]/\Ext h h'/\st.1<=s.length/\ZAA h h' st.2 9 1 ((mrgU ltB (namN (s.take st.1))).map str) (mrgU ltB (namN (s.take st.1))).length ∧
   AllK m [(0,.slice a s.length cap),(3,st.2),(4,i64 st.1)]) (fun st=>s.length-st.1) (0,.slice none 0 0) ?_ ?_
 ·exact⟨rfl,Ext.refl _,Nat.zero_le _,ZAA.nil _ _ _ _,rfl,rfl,rfl,trivial⟩
 rintro⟨j,v⟩ m ds h1 ⟨rfl,hE1,hj,hF1,hall⟩;simp only at hj hF1 hall;refine Wc.le ?_ (Le.kn hall);clear hall;refine zy ?_;refine ZAM rfl rfl rfl rfl (ZAY rfl rfl) (fun hjl=>?_) (fun hjl=>?_);rotate_left
 ·have:j=s.length:=by omega
  subst this;rw[List.take_length] at hF1;refine zy ?_;exact ZAE (ZAF rfl ⟨hF1,hE1⟩)
 have hj':j<s.length:=by omega
 have htk:namN (s.take (j+1))=namN (s.take j)++namA s[j]++namB s[j]:=by
  rw[List.take_add_one,List.getElem?_eq_getElem hj'];exact ZOk _ _
 have hln:(mrgU ltB (namN (s.take j))).length<=200000:=Nat.le_trans (ZBJ ZAL _) (Nat.le_trans (ZQi _) (by rw[List.length_take];omega));obtain⟨b,o,oa,rfl,row,hrow0,hx⟩:=hR j hj';have hrow:=hE1.row hrow0;have ex:row=rowW s[j]:=hx;clear hx;generalize s[j]=x at *;subst ex;have hc4:ZAa h1 b (o+j*6+4)=some (str x.a):=ZAP (k:=4) hrow rfl;have hc5:ZAa h1 b (o+j*6+5)=some (str x.b):=ZAP (k:=5) hrow rfl;have hc3:ZAa h1 b (o+j*6+3)=some (i64 x.kind):=ZAP (k:=3) hrow rfl;refine zy ?_;refine ZAC rfl rfl rfl rfl (A_ix Und.h Tsz.h rfl rfl) ?_;refine zy ?_
 by_cases hn2:x.kind=2
 ·have hk:=hn2
  have hA:namA x=[x.a]:=by unfold namA;rw[if_pos (by rw[hk];decide)]
  have hB:namB x=[x.b]:=by unfold namB;rw[if_pos (by rw[hk];decide)]
  rw[hA,hB] at htk;refine ZAC rfl rfl rfl rfl (A_tt hk (ZAb rfl rfl)) ?_;refine zy ?_;refine ZAC rfl rfl rfl rfl (A_ix Und.h Tsz.h rfl rfl) ?_;refine zy ?_;refine ZAI rfl rfl rfl rfl rfl Bod.h rfl rfl (ZCb (y:=x.a) hF1 hE1 (by omega)) ?_;rintro v2 h2 ⟨hF2,hE2,-⟩;rw[<-ZBE] at hF2;have hl2:(mrgU ltB (namN (s.take j)++[x.a])).length<=300000:=by
   rw[ZBE];have:=ZFc x.a (mrgU ltB (namN (s.take j)));omega
  have hE12:=hE1.trans hE2;have hc5':ZAa h2 b (o+j*6+5)=some (str x.b):=ZAP (k:=5) (hE12.row hrow0) rfl;refine zy ?_;refine ZAC rfl rfl rfl rfl (A_tt hk (ZAb rfl rfl)) ?_;refine zy ?_;refine ZAC rfl rfl rfl rfl (A_ix Und.h Tsz.h rfl rfl) ?_;refine zy ?_;refine ZAI rfl rfl rfl rfl rfl Bod.h rfl rfl (ZCb (y:=x.b) hF2 hE12 (by omega)) ?_;rintro v3 h3 ⟨hF3,hE3,-⟩;rw[<-ZBE] at hF3;refine zy ?_;exact⟨(j+1,v3),(by show s.length-(j+1)<s.length-j;omega),rfl,(hE12.trans hE3),hj',(by simp only;rw[htk];exact hF3),rfl,rfl,rfl,trivial⟩
 by_cases hn3:x.kind=3
 ·have hk:=hn3
  have hA:namA x=[x.a]:=by unfold namA;rw[if_pos (by rw[hk];decide)]
  have hB:namB x=[x.b]:=by unfold namB;rw[if_pos (by rw[hk];decide)]
  rw[hA,hB] at htk;refine ZAC rfl rfl rfl rfl (A_ff (by rw[hk];decide) (ZAb rfl rfl)) ?_;refine zy ?_;refine ZAC rfl rfl rfl rfl (A_tt hk (ZAb rfl rfl)) ?_;refine zy ?_;refine ZAC rfl rfl rfl rfl (A_ix Und.h Tsz.h rfl rfl) ?_;refine zy ?_;refine ZAI rfl rfl rfl rfl rfl Bod.h rfl rfl (ZCb (y:=x.a) hF1 hE1 (by omega)) ?_;rintro v2 h2 ⟨hF2,hE2,-⟩;rw[<-ZBE] at hF2;have hl2:(mrgU ltB (namN (s.take j)++[x.a])).length<=300000:=by
   rw[ZBE];have:=ZFc x.a (mrgU ltB (namN (s.take j)));omega
  have hE12:=hE1.trans hE2;have hc5':ZAa h2 b (o+j*6+5)=some (str x.b):=ZAP (k:=5) (hE12.row hrow0) rfl;refine zy ?_;refine ZAC rfl rfl rfl rfl (A_ff (by rw[hk];decide) (ZAb rfl rfl)) ?_;refine zy ?_;refine ZAC rfl rfl rfl rfl (A_tt hk (ZAb rfl rfl)) ?_;refine zy ?_;refine ZAC rfl rfl rfl rfl (A_ix Und.h Tsz.h rfl rfl) ?_;refine zy ?_;refine ZAI rfl rfl rfl rfl rfl Bod.h rfl rfl (ZCb (y:=x.b) hF2 hE12 (by omega)) ?_;rintro v3 h3 ⟨hF3,hE3,-⟩;rw[<-ZBE] at hF3;refine zy ?_;exact⟨(j+1,v3),(by show s.length-(j+1)<s.length-j;omega),rfl,(hE12.trans hE3),hj',(by simp only;rw[htk];exact hF3),rfl,rfl,rfl,trivial⟩
 by_cases hn4:x.kind=4
 ·have hk:=hn4
  have hA:namA x=[x.a]:=by unfold namA;rw[if_pos (by rw[hk];decide)]
  have hB:namB x=[]:=by unfold namB;rw[if_neg (by rw[hk];decide)]
  rw[hA,hB] at htk;rw[List.append_nil] at htk;refine ZAC rfl rfl rfl rfl (A_ff (by rw[hk];decide) (ZAb rfl rfl)) ?_;refine zy ?_;refine ZAC rfl rfl rfl rfl (A_ff (by rw[hk];decide) (ZAb rfl rfl)) ?_;refine zy ?_;refine ZAC rfl rfl rfl rfl (A_tt hk (ZAb rfl rfl)) ?_;refine zy ?_;refine ZAC rfl rfl rfl rfl (A_ix Und.h Tsz.h rfl rfl) ?_;refine zy ?_;refine ZAI rfl rfl rfl rfl rfl Bod.h rfl rfl (ZCb (y:=x.a) hF1 hE1 (by omega)) ?_;rintro v2 h2 ⟨hF2,hE2,-⟩;rw[<-ZBE] at hF2;have hl2:(mrgU ltB (namN (s.take j)++[x.a])).length<=300000:=by
   rw[ZBE];have:=ZFc x.a (mrgU ltB (namN (s.take j)));omega
  have hE12:=hE1.trans hE2;have hc5':ZAa h2 b (o+j*6+5)=some (str x.b):=ZAP (k:=5) (hE12.row hrow0) rfl;refine zy ?_;refine ZAC rfl rfl rfl rfl (A_ff (by rw[hk];decide) (ZAb rfl rfl)) ?_;refine zy ?_;refine ZAC rfl rfl rfl rfl (A_ff (by rw[hk];decide) (ZAb rfl rfl)) ?_;refine zy ?_;refine ZAC rfl rfl rfl rfl (A_ff (by rw[hk];decide) (ZAb rfl rfl)) ?_;refine zy ?_;exact⟨(j+1,v2),(by show s.length-(j+1)<s.length-j;omega),rfl,hE12,hj',(by simp only;rw[htk];exact hF2),rfl,rfl,rfl,trivial⟩
 by_cases hn1:x.kind=1
 ·have hk:=hn1
  have hA:namA x=[]:=by unfold namA;rw[if_neg (by rw[hk];decide)]
  have hB:namB x=[x.b]:=by unfold namB;rw[if_pos (by rw[hk];decide)]
  rw[hA,hB] at htk;rw[List.append_nil] at htk;refine ZAC rfl rfl rfl rfl (A_ff (by rw[hk];decide) (ZAb rfl rfl)) ?_;refine zy ?_;refine ZAC rfl rfl rfl rfl (A_ff (by rw[hk];decide) (ZAb rfl rfl)) ?_;refine zy ?_;refine ZAC rfl rfl rfl rfl (A_ff (by rw[hk];decide) (ZAb rfl rfl)) ?_;refine zy ?_;refine ZAC rfl rfl rfl rfl (A_ff (by rw[hk];decide) (ZAb rfl rfl)) ?_;refine zy ?_;refine ZAC rfl rfl rfl rfl (A_ff (by rw[hk];decide) (ZAb rfl rfl)) ?_;refine zy ?_;refine ZAC rfl rfl rfl rfl (A_tt hk (ZAb rfl rfl)) ?_;refine zy ?_;refine ZAC rfl rfl rfl rfl (A_ix Und.h Tsz.h rfl rfl) ?_;refine zy ?_;refine ZAI rfl rfl rfl rfl rfl Bod.h rfl rfl (ZCb (y:=x.b) hF1 hE1 (by omega)) ?_
  rintro v3 h3 ⟨hF3,hE3,-⟩;rw[<-ZBE] at hF3;refine zy ?_;exact⟨(j+1,v3),(by show s.length-(j+1)<s.length-j;omega),rfl,(hE1.trans hE3),hj',(by simp only;rw[htk];exact hF3),rfl,rfl,rfl,trivial⟩
 have hA:namA x=[]:=by unfold namA;rw[if_neg (fun q=>q.elim hn2 (fun q=>q.elim hn3 hn4))]
 have hB:namB x=[]:=by unfold namB;rw[if_neg (fun q=>q.elim hn2 (fun q=>q.elim hn3 hn1))]
 rw[hA,hB] at htk;rw[List.append_nil,List.append_nil] at htk;refine ZAC rfl rfl rfl rfl (A_ff (by exact hn2) (ZAb rfl rfl)) ?_;refine zy ?_;refine ZAC rfl rfl rfl rfl (A_ff (by exact hn3) (ZAb rfl rfl)) ?_;refine zy ?_;refine ZAC rfl rfl rfl rfl (A_ff (by exact hn4) (ZAb rfl rfl)) ?_;refine zy ?_;refine ZAC rfl rfl rfl rfl (A_ff (by exact hn2) (ZAb rfl rfl)) ?_;refine zy ?_;refine ZAC rfl rfl rfl rfl (A_ff (by exact hn3) (ZAb rfl rfl)) ?_;refine zy ?_;refine ZAC rfl rfl rfl rfl (A_ff (by exact hn1) (ZAb rfl rfl)) ?_;refine zy ?_;exact⟨(j+1,_),(by show s.length-(j+1)<s.length-j;omega),rfl,hE1,hj',(by simp only;rw[htk];exact hF1),rfl,rfl,rfl,trivial⟩
theorem Own.putS {h0 h h':Heap}{v v':Value}{cs cs':List Value}{n n':Nat}{l:List It}(hO:Own h0 h (slI h0 v 9 1 cs n::l))(hw:WF h)(hn:h0.nx<=h.nx)(he:Ext h h')(hF:ZAA h0 h' v' 9 1 cs' n')(hv:v'=v\/∀c,ZA2 v'=some c->h.nx<=c):Own h0 h' (slI h0 v' 9 1 cs' n'::l):=by
 rcases hv with rfl|hv
 ·exact (hO.ext he).as (y:=slI h0 v' 9 1 cs' n') (fun _=>hF) (fun c hc=>hc)
 ·exact hO.tail.new hw hn he (y:=slI h0 v' 9 1 cs' n') hF hv
def pI (h0:Heap)(q:Value×List Str):It:=slI h0 q.1 9 1 (q.2.map str) q.2.length
def plI (h0:Heap)(v:Value)(P:List (Value×List Str)):It:=slI h0 v 38 1 (P.map Prod.fst) P.length
theorem ZEK {h0 h:Heap}{b o n i:Nat}{oa:Option Nat}{el:TypeId}{cs:List Value}{x:Value}(hF:ZAA h0 h (.slice (some ⟨b,o,oa⟩) n n) el 1 cs n)(hx:cs[i]?=some x):ZAa h b (o+i*1)=some x:=by
 obtain⟨a',e,hl,hc⟩:=hF.is;simp only[Value.slice.injEq,and_true] at e;subst e;have hi:i<cs.length:=(List.getElem?_eq_some_iff.1 hx).1;obtain⟨b',o',oa',e2,h2⟩:=hc i hi;cases e2;rw[Nat.mul_one,h2,hx]
end Go.Dw
namespace Go.Dw
open Go Go.Dx Go.Proofs
set_option maxRecDepth 100000
end Go.Dw
