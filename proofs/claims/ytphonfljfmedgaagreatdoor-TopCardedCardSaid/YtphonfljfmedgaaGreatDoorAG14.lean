/- U6: contracts: the notes that stand (bench.standing). -/
import Derived.Test.YtphonfljfmedgaaGreatDoorAG11
import Derived.Test.YtphonfljfmedgaaGreatDoorAG12
import Derived.Test.YtphonfljfmedgaaGreatDoorAG4
import Derived.Test.YtphonfljfmedgaaGreatDoorAG13
import Derived.Test.YtphonfljfmedgaaGreatDoorAG2
import Derived.Test.YtphonfljfmedgaaGreatDoorAG5
set_option linter.unusedVariables false
set_option linter.unusedSimpArgs false
namespace Go.Dw
open Go Go.Dx Go.Proofs Go.Sort
set_option maxRecDepth 100000
theorem ZSL {a b:List UInt8}(h:str a=str b):a=b:=by injection h with h;injection h with h;injection h
theorem ZE2 {a b:Int}(h:i64 a=i64 b):a=b:=by injection h
theorem ZFR {x y:Nt}(h:(Value.agg ⟨rowN x⟩)=.agg ⟨rowN y⟩):x=y:=by
 injection h with h
 injection h with h
 simp only[rowN,List.cons.injEq,and_true] at h;obtain⟨h1,h2,h3,h4,h5,h6,h7,h8⟩:=h;obtain⟨a1,a2,a3,a4,a5,a6,a7,a8⟩:=x;obtain⟨b1,b2,b3,b4,b5,b6,b7,b8⟩:=y;rw[Nt.mk.injEq];exact⟨ZSL h1,ZE2 h2,ZE2 h3,ZE2 h4,ZE2 h5,ZE2 h6,ZE2 h7,ZE2 h8⟩
structure ZB2 (pre:List Nt)(gl gs:List (Key×Value)):Prop where
 no:∀k,lkp k gl=none->∀y∈pre,y.key≠k
 is:∀k v,lkp k gl=some v->∃x∈pre,x.key=k/\v=.agg ⟨rowN x⟩/\(∀y∈pre,y.key=k->y.rev<=x.rev)/\∃b,lkp k gs=some (.bool b)/\(b=true ↔ ∃y∈pre,y.key=k/\y.rev=x.rev/\y≠x)
 once:Once gl
theorem ZB2.nil:ZB2 [] [] []:=⟨fun _ _ _ h=>(nomatch h),fun _ _ h=>(nomatch h),by simp[Once]⟩
theorem ZBk {α:Type}{l:List α}{x y:α}:y∈l++[x] ↔ y∈l\/y=x:=by simp
theorem ZB2.put {pre:List Nt}{gl gs:List (Key×Value)}(h:ZB2 pre gl gs){x:Nt}(hy:∀v,lkp x.key gl=some v->∃y,v=.agg ⟨rowN y⟩/\y.rev<x.rev):ZB2 (pre++[x]) (setK x.key (.agg ⟨rowN x⟩) gl) (setK x.key (.bool false) gs):=by
 have hlt:∀z∈pre,z.key=x.key->z.rev<x.rev:=fun z hz e=>by
  cases hl:lkp x.key gl with
  | none=>exact absurd e (h.no _ hl z hz)
  | some v =>
   obtain⟨y,rfl,h1⟩:=hy v hl;obtain⟨y',-,-,e2,h2,-⟩:=h.is _ _ hl;cases ZFR e2;have:=h2 z hz e;omega
 refine⟨fun k hk y hy'=>?_,fun k v hk=>?_,h.once.set⟩
 ·rw[ZDp] at hk
  by_cases e:k=x.key
  ·rw[if_pos e] at hk;cases hk
  ·rw[if_neg e] at hk
   rcases ZBk.1 hy' with q|q
   ·exact h.no k hk y q
   ·rw[q];exact fun q=>e q.symm
 ·rw[ZDp] at hk
  by_cases e:k=x.key
  ·rw[if_pos e] at hk
   cases hk;subst e;refine⟨x,by simp,rfl,rfl,fun y hy' ey=>?_,false,by rw[ZDp,if_pos rfl],⟨fun q=>(nomatch q),?_⟩⟩
   ·rcases ZBk.1 hy' with q|q
    ·have:=hlt y q ey;omega
    ·rw[q];omega
   ·rintro⟨y,hy',ey,er,hne⟩
    rcases ZBk.1 hy' with q|q
    ·have:=hlt y q ey;omega
    ·exact absurd q hne
  ·rw[if_neg e] at hk
   obtain⟨z,hz,ez,ev,hle,b,hb,hbt⟩:=h.is k v hk;refine⟨z,by simp[hz],ez,ev,fun y hy' ey=>?_,b,by rw[ZDp,if_neg e];exact hb,hbt.trans ⟨?_,?_⟩⟩
   ·rcases ZBk.1 hy' with q|q
    ·exact hle y q ey
    ·rw[q] at ey;exact absurd ey.symm e
   ·rintro⟨y,hy',r⟩
    exact⟨y,by simp[hy'],r⟩
   ·rintro⟨y,hy',ey,r⟩
    rcases ZBk.1 hy' with q|q
    ·exact⟨y,q,ey,r⟩
    ·rw[q] at ey;exact absurd ey.symm e
theorem ZB2.mark {pre:List Nt}{gl gs:List (Key×Value)}(h:ZB2 pre gl gs){x y:Nt}(hy:lkp x.key gl=some (.agg ⟨rowN y⟩))(hr:x.rev=y.rev)(hne:¬x=y):ZB2 (pre++[x]) gl (setK x.key (.bool true) gs):=by
 refine⟨fun k hk z hz=>?_,fun k v hk=>?_,h.once⟩
 ·rcases ZBk.1 hz with q|q
  ·exact h.no k hk z q
  ·rw[q];rintro rfl;rw[hk] at hy;cases hy
 ·obtain⟨z,hz,ez,ev,hle,b,hb,hbt⟩:=h.is k v hk
  by_cases e:k=x.key
  ·subst e
   rw[hy] at hk;cases hk;cases ZFR ev;refine⟨y,by simp[hz],ez,rfl,fun y' hy' ey=>?_,true,by rw[ZDp,if_pos rfl],⟨fun _=>⟨x,by simp,rfl,hr,hne⟩,fun _=>rfl⟩⟩
   rcases ZBk.1 hy' with q|q
   ·exact hle y' q ey
   ·rw[q];omega
  ·refine⟨z,by simp[hz],ez,ev,fun y hy' ey=>?_,b,by rw[ZDp,if_neg e];exact hb,hbt.trans ⟨?_,?_⟩⟩
   ·rcases ZBk.1 hy' with q|q
    ·exact hle y q ey
    ·rw[q] at ey;exact absurd ey.symm e
   ·rintro⟨y,hy',r⟩
    exact⟨y,by simp[hy'],r⟩
   ·rintro⟨y,hy',ey,r⟩
    rcases ZBk.1 hy' with q|q
    ·exact⟨y,q,ey,r⟩
    ·rw[q] at ey;exact absurd ey.symm e
theorem ZB2.skip {pre:List Nt}{gl gs:List (Key×Value)}(h:ZB2 pre gl gs){x y:Nt}(hy:lkp x.key gl=some (.agg ⟨rowN y⟩))(hr:x.rev<y.rev\/x=y):ZB2 (pre++[x]) gl gs:=by
 refine⟨fun k hk z hz=>?_,fun k v hk=>?_,h.once⟩
 ·rcases ZBk.1 hz with q|q
  ·exact h.no k hk z q
  ·rw[q];rintro rfl;rw[hk] at hy;cases hy
 ·obtain⟨z,hz,ez,ev,hle,b,hb,hbt⟩:=h.is k v hk
  have hx:k=x.key->z=y:=by
   rintro rfl;rw[hy] at hk;cases hk;exact (ZFR ev).symm
  refine⟨z,by simp[hz],ez,ev,fun y' hy' ey=>?_,b,hb,hbt.trans ⟨?_,?_⟩⟩
  ·rcases ZBk.1 hy' with q|q
   ·exact hle y' q ey
   ·rw[q] at ey ⊢
    rw[hx ey.symm]
    rcases hr with r|r
    ·omega
    ·rw[r];omega
  ·rintro⟨y,hy',r⟩
   exact⟨y,by simp[hy'],r⟩
  ·rintro⟨y',hy',ey,er,hne⟩
   rcases ZBk.1 hy' with q|q
   ·exact⟨y',q,ey,er,hne⟩
   ·rw[q] at ey er hne
    have e:=hx ey.symm
    rcases hr with r|r
    ·rw[e] at er;omega
    ·exact absurd (r.trans e.symm) hne
theorem ZB2.stand {l:List Nt}{gl gs:List (Key×Value)}(h:ZB2 l gl gs){x:Nt}:(x∈l/\ZF6 l x) ↔ lkp x.key gl=some (.agg ⟨rowN x⟩)/\lkp x.key gs=some (.bool false):=by
 constructor
 ·rintro⟨hx,hs⟩
  cases hl:lkp x.key gl with
  | none=>exact absurd rfl (h.no _ hl x hx)
  | some v =>
   obtain⟨z,hz,ez,ev,hle,b,hb,hbt⟩:=h.is _ _ hl;have e:z=x:=by
    rcases hs z hz ez with q|q
    ·have:=hle x hx rfl;omega
    ·exact q
   subst e;refine⟨by rw[ev],?_⟩
   cases b with
   | false=>exact hb
   | true =>
    obtain⟨y,hy,ey,er,hne⟩:=hbt.1 rfl
    rcases hs y hy ey with q|q
    ·omega
    ·exact absurd q hne
 ·rintro⟨h1,h2⟩
  obtain⟨z,hz,ez,ev,hle,b,hb,hbt⟩:=h.is _ _ h1;cases ZFR ev;rw[h2] at hb;cases hb;refine⟨hz,fun y hy ey=>?_⟩
  by_cases e:y=x
  ·exact .inr e
  ·have h3:¬y.rev=x.rev:=fun er=>by
    have:=hbt.2 ⟨y,hy,ey,er,e⟩;cases this
   have:=hle y hy ey;exact .inl (by omega)
abbrev xU70:List Nat:=[0,0,0,0,0,19,63]
theorem ZUt (x0 x1 x2 x3 x4 x5 x6 x7:Value):Instr.fill (fun i=>some (i*8,8)) (rep 1 (Value.cells (.agg ⟨[str [],i64 0,i64 0,i64 0,i64 0,i64 0,i64 0,i64 0]⟩)).toList).toArray [(0,.agg ⟨[x0,x1,x2,x3,x4,x5,x6,x7]⟩)]=some ⟨[x0,x1,x2,x3,x4,x5,x6,x7]⟩:=by kernel_rfl
theorem ZO1 (l:List Nt):(l.flatMap rowN).length=l.length*8:=ZBB (enc:=rowN) (k:=8) (fun _=>rfl) l
set_option maxHeartbeats 8000000 in
theorem ZHL {a:Option Addr}{cap:Nat}{l:List Nt}{h:Heap}(hR:TabA rowN 8 h a l)(hok:∀x∈l,x.Ok)(hlen:l.length<=1000) :
  Sv Tryz.prog 28 [.slice a l.length cap] h (RetP fun v h'=>Ext h h'/\ZAE h h' v 46 8 ((ZAO l).flatMap rowN) (ZAO l).length):=by
 refine ZA0 fun hw=>?_;refine ZAF Tryz.func28 rfl (by rw[Tryz.ntmps28];rfl) ?_;show Wc Tryz.prog ⟨28,79,none⟩ _ _ _ _ _;refine zy ?_;refine ZL7 rfl rfl fun h1 hE1 hW1 hg1 hn1=>?_;have hO1:=(Own.nil h h).newMap (K:=keyN) hw (Nat.le_refl _) hE1 hg1 (Nat.le_refl _);generalize h.nx=bm at hO1 hg1 ⊢;refine zy ?_;refine ZL7 rfl rfl fun h2 hE2 hW2 hg2 hn2=>?_;have hO2:=hO1.newMap (K:=keyN) hW1 hE1.2.1 hE2 hg2 (Nat.le_refl _);replace hE2:=hE1.trans hE2;generalize h1.nx=bs at hO2 hg2 ⊢;clear hg1 hg2 hO1 hE1 hW1 hn1 hn2;refine zy ?_;refine ZAS (fun (st:Nat×List (Key×Value)×List (Key×Value)) m ds h'=>ds=[]/\Ext h h'/\Own h h' [mapI keyN bs st.2.2,mapI keyN bm st.2.1]/\st.1<=l.length/\ZB2 (l.take st.1) st.2.1 st.2.2/\AllK m [(3,.map (some bm)),(4,.map (some bs)),(15,.slice a l.length cap),(16,i64 l.length),(17,i64 (st.1:Nat))]) (fun st=>l.length-st.1) (0,[],[]) ?_ ?_
 ·exact⟨rfl,hE2,hO2,Nat.zero_le _,ZB2.nil,rfl,rfl,rfl,rfl,rfl,trivial⟩
 clear hO2 hE2 hW2;rintro⟨i,gl,gs⟩ m ds h3 ⟨rfl,hE3,hO3,hi,hLO,hall⟩;refine Wc.le (ZBg fun hW3=>?_) (Le.kn hall);clear hall;simp only at hi hO3 hLO ⊢;refine zy ?_;refine zC (ZAx rfl rfl) (fun hlt=>?_) (fun hlt=>?_)
 ·have hi':i<l.length:=by omega
  obtain⟨b,o,oa,rfl,row,hrow,hx⟩:=hR i hi';have htk:l.take (i+1)=l.take i++[l[i]]:=by rw[List.take_add_one,List.getElem?_eq_getElem hi'];rfl
  generalize l[i]=x at hx htk;have hx':row=rowN x:=hx;subst hx';have hrow1:=hE3.row hrow;refine zy ?_;refine zD (A_ix Und.h Tsz.h rfl rfl) ?_;refine ZAH rfl rfl Zr.h Tsz.h rfl (fun _=>rfl) rfl rfl rfl fun h4 hE4 hW4 hg4 hn4=>?_;have hO4:=hO3.newCe hW3 hE3.2.1 hE4 hg4 (Nat.le_refl _);replace hE4:=hE3.trans hE4;generalize h3.nx=b6 at hO4 hg4 ⊢;refine zy ?_;refine ZAH rfl rfl Zr.h Tsz.h rfl (fun _=>rfl) rfl rfl rfl fun h5 hE5 hW5 hg5 hn5=>?_;have hO5:=hO4.newCe hW4 hE4.2.1 hE5 hg5 (Nat.le_refl _);have g54:=hE5.get hg4;replace hE5:=hE4.trans hE5;generalize h4.nx=b7 at hO5 hg5 ⊢;have hmap:MapB keyN h5 bm gl:=hO5.p4
  clear hO4 hO3 hg4 hE4 hE3 hrow1 hrow;refine zy ?_
  cases hl:lkp x.key gl with
  | none =>
   refine zD (ZHg keyN (k:=x.key) (v:=.agg ⟨[str [],i64 0,i64 0,i64 0,i64 0,i64 0,i64 0,i64 0]⟩) (q:=false) Und.h Zr.h rfl hmap rfl (by rw[hl];rfl) (by rw[hl];rfl)) ?_;refine ZAH rfl rfl Zr.h Tsz.h rfl (fun _=>rfl) rfl rfl rfl fun h6 hE6 hW6 hg6 hn6=>?_;have hO6:=hO5.ext hE6;replace hE6:=hE5.trans hE6;have hO6':Own h h6 [mapI keyN bm gl,mapI keyN bs gs,ceI b7 [str x.who,i64 x.number] 144 false,ceI b6 (rowN x) 46 false]:=hO6.shuf (ceI 0 [] 0 false) [0,1,2,3] [3,2,0,1] (by decide) rfl;have g6:=hO6.p2;have g7:=hO6.p1;clear hO6 hO5 hg5 g54;refine zy ?_;refine ZAR hmix xU70 [0,1,2,3,4] (some 5) [([],(some 6)),([],none)] (by kernel_rfl) (by kernel_rfl) ?_
   refine z_m ?_;refine z_r ?_;refine z_m ?_;refine z_r ?_;refine z_r ?_;refine ZAM [0,1,4] (by kernel_rfl) rfl (ZAA rfl) rfl nb rfl (ZAT (ZCs keyN (k:=x.key) (v:=.agg ⟨rowN x⟩) rfl hw hE6 rfl Und.h rfl hO6' rfl rfl (fun h7 hO7 hE7 hw7=>?_)));have k7:=hO7.p3;have k6:=hO7.p4;refine ZAM [0,1,2,3,4,5] (by kernel_rfl) rfl (by refine t_r 3 ?_;refine t_m 2 ?_;exact ZAA rfl) rfl nb rfl (ZAT (ZCs keyN (k:=x.key) (v:=.bool false) rfl hw hE7 rfl Und.h rfl hO7.up2 rfl rfl (fun h8 hO8 hE8 hw8=>?_)));refine ZAc (ZAA rfl) nb' ?_;refine zy ?_;exact⟨(i+1,setK x.key (.agg ⟨rowN x⟩) gl,setK x.key (.bool false) gs),(by show l.length-(i+1)<l.length-i;omega),rfl,hE8,hO8.sub (List.sublist_append_left [_,_] [_,_]),hi',(by show ZB2 (l.take (i+1)) _ _;rw[htk];exact hLO.put fun v hv=>by rw[hl] at hv;cases hv),rfl,rfl,rfl,rfl,rfl,trivial⟩
  | some v =>
   obtain⟨y,hy,ey,rfl,hle,bb,hb,hbt⟩:=hLO.is _ _ hl;refine zD (ZHg keyN (k:=x.key) (v:=.agg ⟨rowN y⟩) (q:=true) Und.h Zr.h rfl hmap rfl (by rw[hl];rfl) (by rw[hl];rfl)) ?_;refine ZAH rfl rfl Zr.h Tsz.h rfl (fun _=>rfl) rfl rfl rfl fun h6 hE6 hW6 hg6 hn6=>?_;have hO6:=hO5.ext hE6;replace hE6:=hE5.trans hE6;have hO6':Own h h6 [mapI keyN bm gl,mapI keyN bs gs,ceI b7 [str x.who,i64 x.number] 144 false,ceI b6 (rowN x) 46 false]:=hO6.shuf (ceI 0 [] 0 false) [0,1,2,3] [3,2,0,1] (by decide) rfl;have g6:=hO6.p2;have g7:=hO6.p1;clear hO6 hO5 hg5 g54;refine zy ?_
   by_cases hgt:y.rev<x.rev
   ·refine zD (A_tt hgt (ZBw rfl rfl)) ?_
    refine ZAR hmix xU70 [0,1,2,3,4] (some 5) [([],(some 6)),([],none)] (by kernel_rfl) (by kernel_rfl) ?_;refine z_m ?_;refine z_r ?_;refine z_m ?_;refine z_r ?_;refine z_r ?_;refine ZAM [0,1,4] (by kernel_rfl) rfl (ZAA rfl) rfl nb rfl (ZAT (ZCs keyN (k:=x.key) (v:=.agg ⟨rowN x⟩) rfl hw hE6 rfl Und.h rfl hO6' rfl rfl (fun h7 hO7 hE7 hw7=>?_)));have k7:=hO7.p3;have k6:=hO7.p4;refine ZAM [0,1,2,3,4,5] (by kernel_rfl) rfl (by refine t_r 3 ?_;refine t_m 2 ?_;exact ZAA rfl) rfl nb rfl (ZAT (ZCs keyN (k:=x.key) (v:=.bool false) rfl hw hE7 rfl Und.h rfl hO7.up2 rfl rfl (fun h8 hO8 hE8 hw8=>?_)));refine ZAc (ZAA rfl) nb' ?_
    refine zy ?_;exact⟨(i+1,setK x.key (.agg ⟨rowN x⟩) gl,setK x.key (.bool false) gs),(by show l.length-(i+1)<l.length-i;omega),rfl,hE8,hO8.sub (List.sublist_append_left [_,_] [_,_]),hi',(by show ZB2 (l.take (i+1)) _ _;rw[htk];exact hLO.put fun v hv=>by rw[hl] at hv;cases hv;exact⟨y,rfl,hgt⟩),rfl,rfl,rfl,rfl,rfl,trivial⟩
   refine zE (A_ff hgt (ZBw rfl rfl)) ?_;have hOs:Own h h6 [mapI keyN bs gs,mapI keyN bm gl]:=hO6'.up2.sub (List.sublist_append_left [_,_] [_,_]);refine zy ?_
   by_cases heq:x.rev=y.rev
   ·refine zD (A_tt heq (ZBA rfl rfl)) ?_
    by_cases hne:x=y
    ·refine zD (A_ff (fun q=>q hne) (ZKm (z:=x) (z':=y) rfl rfl)) ?_
     exact⟨(i+1,gl,gs),(by show l.length-(i+1)<l.length-i;omega),rfl,hE6,hOs,hi',(by show ZB2 (l.take (i+1)) _ _;rw[htk];exact hLO.skip hl (.inr hne)),rfl,rfl,rfl,rfl,rfl,trivial⟩
    ·refine zD (A_tt hne (ZKm (z:=x) (z':=y) rfl rfl)) ?_
     refine ZIp keyN (k:=x.key) (v:=.bool true) hw hE6 rfl Und.h rfl hO6'.up2 rfl rfl fun h7 hW7 hO7 hE7=>?_;refine zy ?_;exact⟨(i+1,gl,setK x.key (.bool true) gs),(by show l.length-(i+1)<l.length-i;omega),rfl,hE7,hO7.sub (List.sublist_append_left [_,_] [_,_]),hi',(by show ZB2 (l.take (i+1)) _ _;rw[htk];exact hLO.mark hl heq hne),rfl,rfl,rfl,rfl,rfl,trivial⟩
   ·refine zD (A_ff heq (ZBA rfl rfl)) ?_
    exact⟨(i+1,gl,gs),(by show l.length-(i+1)<l.length-i;omega),rfl,hE6,hOs,hi',(by show ZB2 (l.take (i+1)) _ _;rw[htk];exact hLO.skip hl (.inl (by omega))),rfl,rfl,rfl,rfl,rfl,trivial⟩
 have:i=l.length:=by omega
 subst this;rw[List.take_length] at hLO;clear hlt hi
 have hkeys:∀V:List Key,V.Nodup->(∀k∈V,(lkp k gl).isSome)->V.length<=gl.length:=fun V hn hs=>by
  have:=ZEd hn (m:=gl.map Prod.fst) fun k hk=>by
   rcases ZFj k gl 0 with ⟨-,g⟩|⟨j,v,-,-,⟨p,hp,rfl⟩,-⟩
   ·have:=hs k hk;rw[g] at this;cases this
   ·exact List.mem_map.2 ⟨_,List.mem_of_getElem? hp,rfl⟩
  rwa [List.length_map] at this
 refine zy ?_;refine ZJb keyN hE3 rfl rfl Und.h rfl hO3.up2 fun h4 hW4 hO4 hE4=>?_;replace hE4:=hE3.trans hE4;generalize h3.nx=rr at hO4 ⊢;have hO5:Own h h4 [itI keyN bm rr gl [],slI h (.slice none 0 0) 46 8 [] 0,mapI keyN bs gs]:=(hO4.nilSl 46 8).up2;clear hO4 hO3 hE3 hW3;refine zy ?_;refine ZAS (fun (st:List Nt×List Key×Value) m ds h'=>ds=[]/\Ext h h'/\Own h h' [itI keyN bm rr gl st.2.1,slI h st.2.2 46 8 (st.1.flatMap rowN) st.1.length,mapI keyN bs gs]/\st.1.Nodup/\(∀z,z∈st.1 ↔ (z∈l/\ZF6 l z)/\z.key∈st.2.1)/\st.2.1.Nodup/\(∀k∈st.2.1,(lkp k gl).isSome)/\(st.1=[]->st.2.2=.slice none 0 0)/\AllK m [(4,.map (some bs)),(10,st.2.2),(62,.pointer (some ⟨rr,0,none⟩))]) (fun st=>gl.length-st.2.1.length) ([],[],.slice none 0 0) ?_ ?_
 ·exact⟨rfl,hE4,hO5,.nil,(fun z=>by simp),.nil,(fun _ h=>(nomatch h)),fun _=>rfl,rfl,rfl,rfl,trivial⟩
 clear hO5 hE4 hW4;rintro⟨C,V,v⟩ m ds h8 ⟨rfl,hE8,hO8,hCn,hCm,hVn,hVs,hCv,hall⟩;refine Wc.le ?_ (Le.kn hall);clear hall;simp only at hO8 hCn hCm hVn hVs hCv ⊢;have hCl:C.length<=1000:=by
  have:=ZEd hCn (m:=l) fun z hz=>((hCm z).1 hz).1.1;omega
 refine zy ?_;refine ZKd keyN hw hE8 rfl rfl rfl hLO.once hO8 (fun hdone=>?_) fun k v1 h9 hlkv hnk hC9 hO9 hE9=>?_
 ·have hm:∀e,e∈ZAO l ↔ e∈C:=fun e=>by
   rw[ZBa,hCm];exact⟨fun q=>⟨q,hdone _ _ (hLO.stand.1 q).1⟩,fun q=>q.1⟩
  have hF:ZAE h h8 v 46 8 (C.flatMap rowN) C.length:=hO8.p2;have hTl:(ZAO l).length=C.length:=by
   refine Nat.le_antisymm (ZEd ((ZCy l).imp fun {a b} hab e=>?_) fun z hz=>(hm z).1 hz) (ZEd hCn fun z hz=>(hm z).2 hz);rw[e] at hab;exact ZB1.irr _ hab
  have hS:Sv Tryz.prog 57 [v,.func (.func 58) ⟨[]⟩ ⟨[]⟩] h8 (RetP fun r h'=>r=.tuple ⟨[]⟩/\ZAE h h' v 46 8 ((ZAO l).flatMap rowN) C.length/\Exb (fun c=>ZBi v=some c) h8 h') :=
   ZMU ZQq (by decide) Tryz.isAgg46 Tryz.sizeOf46 (enc:=rowN) (fun _=>rfl) (fun x v hv=>by
    simp only[rowN,List.mem_cons,List.not_mem_nil,or_false] at hv
    rcases hv with rfl|rfl|rfl|rfl|rfl|rfl|rfl|rfl <;> rfl) (fun _=>rfl) (enters_of Tryz.func58 (by kernel_rfl) rfl) ZB1 (cf:=cmpN) (fun x _ y _=>ZSG) (fun x hx y hy h'=>ZQV (hok _ ((hCm x).1 hx).1.1) (hok _ ((hCm y).1 hy).1.1) h') hF (by omega) (ZCy l) hm hCn hCv
  refine zy ?_;refine ZA5 rfl rfl rfl rfl rfl Bod.h rfl rfl hS ?_;rintro _ h10 ⟨rfl,hF10,hX10⟩;have hE10:Ext h h10:=hO8.up2.grows hX10 hE8 hw;rw[<-hTl] at hF10;refine zy ?_;exact ZAB (ZAC rfl ⟨hE10,hF10⟩)
 obtain⟨x,hxl,hxk,rfl,hle,bb,hbb,hbt⟩:=hLO.is _ _ hlkv;subst hxk;refine ZA4 fun hw9=>?_;refine zy ?_;refine ZOF keyN rfl rfl rfl hC9 ?_;refine zy ?_;refine ZAa rfl rfl Zr.h fun h10 hE10 hW10 hg10 hn10=>?_;refine zy ?_;refine ZAa rfl rfl Zr.h fun h11 hE11 hW11 hg11 hn11=>?_;refine zy ?_;refine ZAe rfl Tsz.h rfl rfl (hE11.get hg10) rfl rfl rfl fun h12 hU12=>?_;have hE12:Ext h9 h12:=hU12.ext (hE10.trans hE11) hw9 (Nat.le_refl _);have hg12:=hU12.get (by omega) hg11;refine zy ?_;refine ZAe rfl Tsz.h rfl rfl hg12 rfl rfl rfl fun h13 hU13=>?_;have hE13:Ext h9 h13:=hU13.ext hE12 hw9 (by omega);have k11:=hU13.get (by omega) hU12.at'
 have k12:=hU13.at';have hO13:=hO9.ext hE13;replace hE13:=hE9.trans hE13;clear hU12 hU13 hE12 hg12 hE10 hE11 hg10 hg11 hW10 hW11 hO9 hE9 hO8 hE8 hC9;generalize h9.nx=b11 at *;generalize h10.nx=b12 at *;have hmap:MapB keyN h13 bs gs:=hO13.p3
 have hVl:V.length+1<=gl.length:=hkeys (x.key::V) (List.nodup_cons.2 ⟨hnk,hVn⟩) fun k hk=>by
  rcases List.mem_cons.1 hk with rfl|hk
  ·rw[hlkv];rfl
  ·exact hVs k hk
 have hVs':∀k∈x.key::V,(lkp k gl).isSome:=fun k hk=>by
  rcases List.mem_cons.1 hk with rfl|hk
  ·rw[hlkv];rfl
  ·exact hVs k hk
 refine zy ?_;refine zE (ZPb keyN (k:=x.key) (v:=.bool bb) Und.h Zr.h rfl hmap rfl (by rw[hbb];rfl)) ?_
 cases bb with
 | true =>
  refine zy ?_;refine⟨(C,x.key::V,v),(by show gl.length-(V.length+1)<gl.length-V.length;omega),rfl,hE13,hO13,hCn,fun z=>?_,List.nodup_cons.2 ⟨hnk,hVn⟩,hVs',hCv,rfl,rfl,rfl,trivial⟩
  show z∈C ↔ (z∈l/\ZF6 l z)/\z.key∈x.key::V
  rw[hCm,List.mem_cons]
  constructor
  ·exact fun ⟨q1,q2⟩=>⟨q1,.inr q2⟩
  ·rintro⟨q1,q2|q2⟩
   ·have:=(hLO.stand.1 q1).2
    rw[q2,hbb] at this;cases this
   ·exact⟨q1,q2⟩
 | false =>
  have hst:x∈l/\ZF6 l x:=hLO.stand.2 ⟨hlkv,hbb⟩;refine zy ?_;refine ZDi (cs:=rowN x) rfl rfl Und.h Tsz.h Zr.h rfl rfl rfl rfl (ZUt _ _ _ _ _ _ _ _) fun h14 hE14 hW14 hg14 hn14=>?_;refine zy ?_;refine ZBH (k:=1) (l:=rowN x) hw (hE13.trans hE14) rfl rfl rfl rfl rfl Und.h inferInstance rfl rfl (hO13.ext hE14).up2 (ZAm Und.h (by intro k;simp) (ZAL hg14 rfl)) rfl rfl (by omega) (by omega) fun v8 h15 hW15 hO15 hE15=>?_;have hlen1:(C++[x]).flatMap rowN=C.flatMap rowN++rowN x:=by rw[List.flatMap_append,List.flatMap_singleton]
  have hxC:x ∉ C:=fun q=>hnk ((hCm x).1 q).2;refine zy ?_
  refine⟨(C++[x],x.key::V,v8),(by show gl.length-(V.length+1)<gl.length-V.length;omega),rfl,hE15,(by
   show Own h h15 [itI keyN bm rr gl (x.key::V),slI h v8 46 8 ((C++[x]).flatMap rowN) (C++[x]).length,mapI keyN bs gs]
   rw[hlen1,List.length_append];exact hO15.up2),?_,fun z=>?_,List.nodup_cons.2 ⟨hnk,hVn⟩,hVs',(fun q=>by simp at q),rfl,rfl,rfl,trivial⟩
  ·show (C++[x]).Nodup
   rw[List.nodup_append]
   exact⟨hCn,by simp,fun a ha b hb=>by
    rw[List.mem_singleton] at hb;rw[hb];rintro rfl;exact hxC ha⟩
  ·show z∈C++[x] ↔ (z∈l/\ZF6 l z)/\z.key∈x.key::V
   rw[ZBk,hCm,List.mem_cons]
   constructor
   ·rintro (⟨q1,q2⟩|rfl)
    ·exact⟨q1,.inr q2⟩
    ·exact⟨hst,.inl rfl⟩
   ·rintro⟨q1,q2|q2⟩
    ·refine .inr ?_
     have:=(hLO.stand.1 q1).1;rw[q2,hlkv] at this;exact (ZFR (Option.some.inj this)).symm
    ·exact .inl ⟨q1,q2⟩
end Go.Dw
namespace Go.Dw
open Go Go.Dx Go.Proofs
set_option maxRecDepth 100000
section
variable {P:Program}{m:Mem}{h:Heap}{d:Option Tmp}{ty:TypeId}{pos:String}{af:Array Edge}{gu:Option (Nat×Bool)}
theorem ZOi {x:Operand}{t:TypeId}{ts:List TypeId}{el:TypeId}{len cap:Nat}{c:Call}(hc:c.callee=.builtin .cap)(hargs:c.args=#[x])(hat:c.argTypes.toList=t::ts)(ht:P.underlying t=some (.slice el))
  (hx:opk h m x=some (.slice none len cap)):Aop P ⟨d,.call c,ty,pos,af,gu⟩ m h (.int .i64 (cap:Int)) h :=
 ZAb fun e hs=>by
  show ZCr P _ h e c=_
  unfold ZCr;rw[hc];simp only[hargs,hat,ZBV,ZAJ hs hx,acap,ht];rfl
theorem ZTR {t el:TypeId}{sz:Nat}{x j:Operand}{kj:IntKind}(ht:P.underlying t=some (.slice el))(hz:tsz P el=some sz)(hx:opk h m x=some (.slice none 0 0))(hj:opk h m j=some (.int kj 0)):Aop P ⟨d,.slice t x none (some j) none,ty,pos,af,gu⟩ m h (.slice none 0 0) h:=by
 refine ZGr hx hj rfl rfl rfl fun ev w h1 h2=>?_;have hsb:sb 0 0 none (some (.int kj 0)) none=some (0,0,0):=rfl;obtain⟨hrun,_,hm0,_⟩:=ZMT (P:=P) (ι:=fun _=>none) (lo':=none) (hi':=some (.int kj 0)) (mx':=none) .none (.some (.int kj 0)) .none hsb (Nat.le_refl _) true w;simp only[execOp,h1,h2,Option.map_some,Option.map_none,Instr.sliceAt,Instr.slice,Sem.run_bind,run_underlying ht,Result.andThen_ok,hrun,Dx.run_sizeOf hz,Sem.run_pure]
 rfl
theorem ZPT {t el:TypeId}{x j:Operand}{kj:IntKind}{b n:Nat}(hn:0<n)(ht:P.underlying t=some (.slice el))(hz:tsz P el=some 8)(hx:opk h m x=some (.slice (some ⟨b,0,some 8⟩) n n))(hj:opk h m j=some (.int kj 0)):Aop P ⟨d,.slice t x none (some j) none,ty,pos,af,gu⟩ m h (.slice (some ⟨b,0,some 8⟩) 0 n) h :=
 ZAb fun e hs=>by
  show ZBr P _ h e t x none (some j) none=_
  unfold ZBr;simp only[ZAJ hs hx,opvo,ZAJ hs hj];have:ZCJ P t (.slice (some ⟨b,0,some 8⟩) n n) none (some (.int kj 0)) none=some (.slice (some ⟨b,0,some 8⟩) 0 n):=by
   have hb1:Nat.ble n n=true:=Nat.ble_eq_true_of_le (Nat.le_refl _);have c1:bnd none n n=some n:=by simp only[bnd,hb1]
   have c2:bnd (some (.int kj 0)) n n=some 0:=by
    have:Nat.ble 0 n=true:=Nat.ble_eq_true_of_le (Nat.zero_le _)
    show bnd (some (.int kj (Int.ofNat 0))) n n=some 0
    simp only[bnd,ZDC,this]
   have c3:bnd none 0 0=some 0:=rfl;have c4:sb n n none (some (.int kj 0)) none=some (0,0,n):=by
    unfold sb;simp only[c1,c2,c3]
   unfold ZCJ;rw[ht];simp only[c4,hz]
   rfl
  simp only[this]
end
section
variable {P:Program}{fr:Fr}{m:Mem}{ds:List ADef}{h:Heap}{Q:CQ}{ops:Array Oper}{lo:List Oper}{d:Nat}{ty:TypeId}{pos:String}{af:Array Edge}{gu:Option (Nat×Bool)}
theorem ZHs {tS tX el:TypeId}{by':Nat}{c:Call}{s x:Operand}{xv:Value}{l vs r:List Value}{b n k cap:Nat}{sp:Option Nat}{op:Bool}{ts:List TypeId}(hg:gk ops.toList m gu=some true)(hlt:Nat.blt d fr.nt=true)(hc:c.callee=.builtin .append)(hargs:c.args=#[s,x])(hat:c.argTypes.toList=tS::tX::ts)(hS:P.underlying tS=some (.slice el))(hE:Elm P el 8 by')
  (hs:opk h m s=some (.slice (some ⟨b,0,sp⟩) n cap)) (hsp:sp=none\/sp=some 8) (hx:opk h m x=some xv) (hsrc:asrc P el 8 tX xv h=some (k,l)) (h1:allOne l=true) (hgt:h.get b=some (.cells vs el op)) (hroom:n+k<=cap) (hlay:lay vs (n*8) l=some r)
  (hk:∀h',Upd h b (.cells r el op) h'->Wo P fr ops lo (upd m d (.slice (some ⟨b,0,sp⟩) (n+k) cap)) ds h' Q):Wo P fr ops (⟨some d,.call c,ty,pos,af,gu⟩::lo) m ds h Q:=by
 refine ZAk hg (by show ZB8 c.callee=true;rw[hc];rfl) rfl hlt (ZAb fun e hsat=>?_) (hk _ (Upd.mk' h b _))
 show ZCr P _ h e c=_
 unfold ZCr;rw[hc];simp only[hargs,hat,ZBV,ZAJ hsat hs,ZAJ hsat hx];obtain⟨i,z,i1,i2,i3,i4,i5,i6⟩:=hE.h;have e1:Nat.ble (Nat.add n k) cap=true:=Nat.ble_eq_true_of_le hroom;have hlay':lay vs (Nat.add 0 (Nat.mul n 8)) l=some r:=by
  rw[show Nat.add 0 (Nat.mul n 8)=n*8 from by show 0+n*8=n*8;omega];exact hlay
 unfold ZCR;simp only[hS,i1,i4,i2,i5,i6,hsrc]
 rcases hsp with rfl|rfl
 ·simp only[hgt,h1,e1,hlay'];rfl
 ·simp only[hgt,h1,e1,hlay'];rfl
end
theorem ZKf {P:Program}{el tX:TypeId}{kk ki:IntKind}{h:Heap}{n:Nat}{z:Value}{by':Nat}(hX:P.underlying tX=some (.int kk))(hE:Elm P el 8 by')(hZ:ZA9 P el=some z)(hb:n*by'<=281474976710656)(hb2:n<281474976710656):asrc P el 8 tX (.int ki n) h=some (n,rep n z.cells.toList):=by
 obtain⟨i,z',i1,i2,i3,i4,i5,i6⟩:=hE.h;rw[hZ] at i4;cases i4;have e1:Nat.ble (Nat.mul n by') 281474976710656=true:=Nat.ble_eq_true_of_le hb;have e2:Nat.blt n 281474976710656=true:=by rw[Nat.blt_eq];exact hb2
 unfold asrc;rw[hX];simp only[show ZDC (.int ki (n:Int))=some n from rfl,hZ,i1,i3,e1,e2,i5,i6]
theorem ZIG {l:List Value}(h:allOne l=true):∀n,allOne (rep n l)=true
 | 0=>rfl
 | n+1=>by
  rw[ZFK];have:=ZIG h n;unfold allOne at this h ⊢;rw[List.all_append,h,this];rfl
abbrev zN:List Value:=[str [],i64 0,i64 0,i64 0,i64 0,i64 0,i64 0,i64 0]
theorem ZJY (l:List Nt):allOne (l.flatMap rowN)=true:=by
 induction l with
 | nil=>rfl
 | cons x l ih =>
  rw[List.flatMap_cons];unfold allOne at ih ⊢;rw[List.all_append,ih];rfl
theorem ZRh {h:Heap}{n:Nat}{x:Int}(hx:x=n)(hn:0<n)(hn2:n<1000000)(hw:WF h) :
  Sv Tryz.prog 59 [.slice none 0 0,i64 x] h (RetP fun v h'=>∃b sp op,v=.slice (some ⟨b,0,sp⟩) 0 n/\(sp=none\/sp=some 8)/\h'.get b=some (.cells (rep n zN) 46 op)/\h.nx<=b/\Ext h h'):=by
 subst hx;refine ZAF Tryz.func59 rfl (by rw[Tryz.ntmps59];rfl) ?_;show Wc Tryz.prog ⟨59,27,none⟩ _ _ _ _ _;refine zy ?_;refine zD (A_ff (by omega) (ZAx rfl rfl)) ?_;refine zD (ZOi rfl rfl rfl Und.h rfl) ?_;refine zD (A_tt (by omega) (ZBw rfl rfl)) ?_;refine zE (ZOi rfl rfl rfl Und.h rfl) ?_;refine zD (ZTR Und.h Tsz.h rfl rfl) ?_;refine ZEU (h0:=h) (by':=72) (sz:=8) (k:=n) (n:=0) (cs:=[]) (l:=rep n zN) hw (Ext.refl h) rfl rfl rfl rfl rfl Und.h inferInstance rfl rfl (ZAE.nil _ _ _ _) ?_ (by rw[ZCT];rfl) (ZIG rfl n) (by omega) (by omega) fun v' h' hF hE _ _ _=>?_
 ·have e:((n:Int)-((0:Nat)-(0:Nat):Int))=(n:Int):=by omega
  have:=ZKf (P:=Tryz.prog) (el:=46) (tX:=3) (ki:=.i64) (h:=h) (n:=n) Und.h inferInstance Zr.h (by omega) (by omega);rw[<-e] at this;exact this
 rw[List.nil_append,Nat.zero_add] at hF;have key:∃b sp op,v'=.slice (some ⟨b,0,sp⟩) n n/\(sp=none\/sp=some 8)/\h'.get b=some (.cells (rep n zN) 46 op)/\h.nx<=b:=by
  rcases hF with ⟨_,_,e⟩|⟨b,sp,op,e,g1,g2,g3,g4⟩
  ·omega
  ·exact⟨b,sp,op,e,g4,g1,g3⟩
 obtain⟨b,sp,op,rfl,hsp,hg,hb⟩:=key;refine zy ?_
 rcases hsp with rfl|rfl
 ·refine zD (ZFC (k:=0) Und.h Tsz.h rfl rfl rfl (Nat.zero_le _)) ?_
  exact ZAB (ZAC rfl ⟨b,none,op,rfl,.inl rfl,hg,hb,hE⟩)
 ·refine zD (ZPT hn Und.h Tsz.h rfl rfl) ?_
  exact ZAB (ZAC rfl ⟨b,some 8,op,rfl,.inr rfl,hg,hb,hE⟩)
theorem ZP7 {h:Heap}{x:Int}(hx:x=0) :
  Sv Tryz.prog 59 [.slice none 0 0,i64 x] h (RetP fun v h'=>v=.slice none 0 0/\h'=h):=by
 subst hx;refine ZAF Tryz.func59 rfl (by rw[Tryz.ntmps59];rfl) ?_;show Wc Tryz.prog ⟨59,27,none⟩ _ _ _ _ _;refine zy ?_;refine zD (A_ff (by omega) (ZAx rfl rfl)) ?_;refine zD (ZOi rfl rfl rfl Und.h rfl) ?_;refine zD (A_ff (by omega) (ZBw rfl rfl)) ?_;exact ZAB (ZAC rfl ⟨rfl,rfl⟩)
def CatR (h:Heap)(row:List Value)(l:List Nt):Prop:=∃a cap,row=[.slice a l.length cap]/\SrcK rowN 8 h a l
theorem CatR.ext {h h':Heap}{row:List Value}{l:List Nt}(hr:CatR h row l)(hE:Ext h h'):CatR h' row l:=by
 obtain⟨a,cap,e,hl⟩:=hr;exact⟨a,cap,e,hl.ext hE⟩
theorem ZLo {L:List (List Nt)}{i:Nat}(hi:i<L.length):(L.take (i+1)).flatten=(L.take i).flatten++L[i]:=by
 rw[List.take_add_one,List.getElem?_eq_getElem hi,Option.toList_some,List.flatten_append,List.flatten_cons,List.flatten_nil,List.append_nil]
theorem ZOn {L:List (List Nt)}(i:Nat):(L.take i).flatten.length<=L.flatten.length:=by
 conv=>rhs;rw[<-List.take_append_drop i L,List.flatten_append,List.length_append]
 omega
theorem ZPN {L:List (List Nt)}(hs:∀l∈L,l.length<=60):L.flatten.length<=60*L.length:=by
 induction L with
 | nil=>simp
 | cons l L ih =>
  rw[List.flatten_cons,List.length_append,List.length_cons];have h1:=hs l List.mem_cons_self;have h2:=ih fun x hx=>hs x (List.mem_cons_of_mem _ hx);omega
set_option maxHeartbeats 4000000 in
theorem ZM0 {h:Heap}{L:List (List Nt)}{a:Option Addr}{c:Nat}(hL:ZAV 1 CatR h a L)(hl8:L.length<=8)(hs:∀l∈L,l.length<=60) :
  Sv Tryz.prog 29 [.slice a L.length c] h (RetP fun v h'=>ZAE h h' v 46 8 (L.flatten.flatMap rowN) L.flatten.length/\Ext h h'):=by
 refine ZA0 fun hw=>?_;have hmx:=ZPN hs;obtain⟨n,hn⟩:∃n,n=L.flatten.length:=⟨_,rfl⟩;refine ZAF Tryz.func29 rfl (by rw[Tryz.ntmps29];rfl) ?_;show Wc Tryz.prog ⟨29,36,none⟩ _ _ _ _ _;refine zy ?_;refine ZAS (fun (i:Nat) me ds h'=>ds=[]/\h=h'/\i<=L.length/\AllK me [(0,.slice a L.length c),(3,i64 ((L.take i).flatten.length:Nat)),(9,.slice a L.length c),(10,i64 L.length),(11,i64 i)]) (fun i=>L.length-i) 0 ?_ ?_
 ·exact⟨rfl,rfl,Nat.zero_le _,rfl,rfl,rfl,rfl,rfl,trivial⟩
 rintro i me ds _ ⟨rfl,rfl,hi,hall⟩;refine Wc.le ?_ (Le.kn hall);have hle:=ZOn (L:=L) i;refine zy ?_;refine zC (ZAx rfl rfl) (fun hlt=>?_) (fun hlt=>?_)
 ·have hi':i<L.length:=by omega
  obtain⟨b,o,oa,rfl,row,hrow,ai,ci,er,hsi⟩:=hL i hi';subst er;have hc:ZAi h b (o+i*1+0)=some (.slice ai L[i].length ci):=ZAr (k:=0) hrow rfl;have hle2:=ZOn (L:=L) (i+1);have hs:=ZLo hi';have hs2:=congrArg List.length hs;rw[List.length_append] at hs2;refine zy ?_;refine zD (A_ix Und.h Tsz.h rfl rfl) ?_;refine zD (A_ff (by omega) (ZAx rfl rfl)) ?_;refine⟨i+1,(by show L.length-(i+1)<L.length-i;omega),rfl,rfl,hi',rfl,?_,rfl,rfl,rfl,trivial⟩
  show some (i64 (((L.take i).flatten.length:Nat)+(L[i].length:Nat)))=some (i64 ((L.take (i+1)).flatten.length:Nat))
  rw[hs2];congr 2
 have hiL:i=L.length:=by omega
 subst hiL;rw[List.take_length,<-hn];clear hle hall
 rcases Nat.eq_zero_or_pos n with h0|h0
 ·have hz:∀l∈L,l=[]:=fun l hl=>by
   have h1:L.flatten=[]:=List.eq_nil_of_length_eq_zero (hn.symm.trans h0);exact List.flatten_eq_nil_iff.1 h1 l hl
  have hfl:L.flatten=[]:=List.eq_nil_of_length_eq_zero (hn.symm.trans h0);rw[h0];refine zy ?_;refine zV (ZP7 rfl) ?_;refine ZAS (fun (st:Nat×Value) me ds h'=>ds=[]/\Ext h h'/\st.1<=L.length/\ZAE h h' st.2 46 8 [] 0/\AllK me [(0,.slice a L.length c),(6,st.2),(25,.slice a L.length c),(26,i64 L.length),(27,i64 (st.1:Nat))]) (fun st=>L.length-st.1) (0,.slice none 0 0) ?_ ?_
  ·exact⟨rfl,Ext.refl _,Nat.zero_le _,.nil _ _ _ _,rfl,rfl,rfl,rfl,rfl,trivial⟩
  rintro⟨i,v⟩ me ds h1 ⟨rfl,hE1,hi,hF,hall⟩;refine Wc.le ?_ (Le.kn hall);clear hall;simp only at hi hF;refine zy ?_;refine zC (ZAx rfl rfl) (fun hlt=>?_) (fun hlt=>?_)
  ·have hi':i<L.length:=by omega
   obtain⟨b,o,oa,rfl,row,hrow0,hx⟩:=hL i hi';have hrow:=hE1.row hrow0;obtain⟨ai,ci,er,hsi⟩:=hx.ext hE1;rw[hz _ (List.getElem_mem hi')] at er hsi;subst er;have hc:ZAi h1 b (o+i*1+0)=some (.slice ai 0 ci):=ZAr (k:=0) hrow rfl;refine zy ?_;refine zD (A_ix Und.h Tsz.h rfl rfl) ?_;refine ZEU (h0:=h) (k:=0) (n:=0) (l:=[]) hw hE1 rfl rfl rfl rfl rfl Und.h inferInstance rfl rfl hF (SrcK.src (enc:=rowN) (k:=8) (l:=[]) (dd:=.slice 46) (by decide) (fun _=>rfl) hsi Und.h (by intro k;simp)) rfl rfl (by omega) (by omega) fun v' h' hF' hE' _ _ _=>?_;refine zy ?_;exact⟨(i+1,v'),(by show L.length-(i+1)<L.length-i;omega),rfl,hE',hi',hF',rfl,rfl,rfl,rfl,rfl,trivial⟩
  refine zy ?_;refine ZAB (ZAC rfl ⟨?_,hE1⟩);rw[hfl];exact hF
 refine zy ?_;refine zR (ZRh (n:=n) rfl h0 (by omega) hw) ?_;rintro _ h1 ⟨b,sp,op,rfl,hsp,hg,hb,hE⟩;refine zy ?_;refine ZAS (fun (i:Nat) me ds h'=>ds=[]/\i<=L.length/\∃vs,h'.get b=some (.cells vs 46 op)/\vs.length=n*8/\vs.take ((L.take i).flatten.length*8)=(L.take i).flatten.flatMap rowN/\Exb (fun c=>c=b) h1 h'/\AllK me [(0,.slice a L.length c),(6,.slice (some ⟨b,0,sp⟩) (L.take i).flatten.length n),(25,.slice a L.length c),(26,i64 L.length),(27,i64 i)]) (fun i=>L.length-i) 0 ?_ ?_
 ·exact⟨rfl,Nat.zero_le _,_,hg,by rw[ZCT];rfl,rfl,Exb.refl _ _,rfl,rfl,rfl,rfl,rfl,trivial⟩
 rintro i me ds h2 ⟨rfl,hi,vs,hg2,hvl,hvt,hX,hall⟩;refine Wc.le ?_ (Le.kn hall);clear hall;have hE2:Ext h h2:=hX.ext hE hw fun c e=>by omega
 have hle:=ZOn (L:=L) i;refine zy ?_;refine zC (ZAx rfl rfl) (fun hlt=>?_) (fun hlt=>?_)
 ·have hi':i<L.length:=by omega
  obtain⟨b',o,oa,rfl,row,hrow0,hx⟩:=hL i hi';have hrow:=hE2.row hrow0;obtain⟨ai,ci,er,hsi⟩:=hx.ext hE2;subst er;have hc:ZAi h2 b' (o+i*1+0)=some (.slice ai L[i].length ci):=ZAr (k:=0) hrow rfl;have hle2:=ZOn (L:=L) (i+1);have hft:=ZLo hi';have hs2:=congrArg List.length hft;rw[List.length_append] at hs2;have hfm:(L[i].flatMap rowN).length=L[i].length*8:=ZBB (enc:=rowN) (k:=8) (fun _=>rfl) _;refine zy ?_;refine zD (A_ix Und.h Tsz.h rfl rfl) ?_;refine ZHs (by':=72) (l:=L[i].flatMap rowN) (k:=L[i].length) rfl rfl rfl rfl rfl Und.h inferInstance rfl hsp rfl (SrcK.src (enc:=rowN) (k:=8) (dd:=.slice 46) (by decide) (fun _=>rfl) hsi Und.h (by intro k;simp)) (ZJY _) hg2 (by omega) (ZDL (by rw[hfm];omega)) fun h3 hU3=>?_
  refine zy ?_;refine⟨i+1,(by show L.length-(i+1)<L.length-i;omega),rfl,hi',_,hU3.at',?_,?_,hX.upd hU3 rfl,rfl,?_,rfl,rfl,rfl,trivial⟩
  ·simp only[List.length_append,List.length_take,List.length_drop,hfm];omega
  ·rw[hvt,hs2,hft,List.flatMap_append,<-List.append_assoc]
   refine List.take_left' ?_;rw[List.length_append,hfm,ZBB (enc:=rowN) (k:=8) (fun _=>rfl)];omega
  ·rw[hs2];rfl
 have hiL:i=L.length:=by omega
 subst hiL;rw[List.take_length,<-hn] at hvt;refine zy ?_;refine ZAB (ZAC rfl ⟨?_,hE2⟩);rw[List.take_of_length_le (by omega)] at hvt;rw[List.take_length,<-hn];exact .inr ⟨b,sp,op,rfl,by rw[<-hvt];exact hg2,by rw[<-hvt,hvl],hb,hsp⟩
def ZBx:List Nt->Int
 | []=>0
 | x::l=>if ZA8 x≠0 then ZA8 x else ZBx l
def ZBP:List (List Nt)->Int
 | []=>0
 | l::L=>if 60<l.length then 3 else if ZBx l≠0 then ZBx l else ZBP L
noncomputable def ZBN (L:List (List Nt)):Int:=if 8<L.length then 3 else if ZBP L≠0 then ZBP L else if 60<(ZAO L.flatten).length then 3 else 0
theorem ZH0:∀{l:List Nt},ZBx l=0->∀x∈l,x.Ok
 | [],_,_,h=>nomatch h
 | y::l,h,x,hx=>by
  unfold ZBx at h
  by_cases h1:ZA8 y=0
  ·rw[if_neg (fun q=>q h1)] at h
   rcases List.mem_cons.1 hx with rfl|hx
   ·exact ZGE h1
   ·exact ZH0 h x hx
  ·rw[if_pos h1] at h;exact absurd h h1
theorem ZG1:∀{L:List (List Nt)},ZBP L=0->∀l∈L,l.length<=60/\∀x∈l,x.Ok
 | [],_,_,h=>nomatch h
 | k::L,h,l,hl=>by
  unfold ZBP at h
  split at h
  ·exact absurd h (by decide)
  rename_i h0
  by_cases h1:ZBx k=0
  ·rw[if_neg (fun q=>q h1)] at h
   rcases List.mem_cons.1 hl with rfl|hl
   ·exact⟨by omega,ZH0 h1⟩
   ·exact ZG1 h l hl
  ·rw[if_pos h1] at h;exact absurd h h1
def Nt.Fit (x:Nt):Prop:=x.who.length<=281474976710656
set_option maxHeartbeats 4000000 in
theorem ZI7 {h:Heap}{L:List (List Nt)}{a:Option Addr}{c:Nat}(hL:ZAV 1 CatR h a L)(hLL:Len L)(hLl:∀l∈L,Len l)(hf:∀l∈L,∀x∈l,x.Fit) :
  Sv Tryz.prog 6 [.slice a L.length c] h (RetP fun v h'=>Ext h h'/\∃s,v=.tuple ⟨[s,i64 (ZBN L)]⟩/\(ZBN L≠0->s=.slice none 0 0)/\(ZBN L=0->ZAE h h' s 46 8 ((ZAO L.flatten).flatMap rowN) (ZAO L.flatten).length)):=by
 refine ZA0 fun hw=>?_;refine ZAF Tryz.func6 rfl (by rw[Tryz.ntmps6];rfl) ?_;show Wc Tryz.prog ⟨6,42,none⟩ _ _ _ _ _;refine zy ?_;refine zC (ZBw rfl rfl) (fun h8=>?_) (fun h8=>?_)
 ·have e:ZBN L=3:=by unfold ZBN;rw[if_pos (by omega)]
  rw[e];refine zy ?_;exact ZAB (ZAC rfl ⟨Ext.refl _,_,rfl,fun _=>rfl,fun q=>absurd q (by decide)⟩)
 have eM:ZBN L=if ZBP L≠0 then ZBP L else if 60<(ZAO L.flatten).length then 3 else 0:=by unfold ZBN;rw[if_neg (by omega)]
 rw[eM];refine zy ?_;refine ZAS (fun (i:Nat) m ds h'=>ds=[]/\Ext h h'/\i<=L.length/\ZBP L=ZBP (L.drop i)/\AllK m [(0,.slice a L.length c),(13,.slice a L.length c),(14,i64 L.length),(15,i64 (i:Nat))]) (fun i=>L.length-i) 0 ?_ ?_
 ·exact⟨rfl,Ext.refl _,Nat.zero_le _,rfl,rfl,rfl,rfl,rfl,trivial⟩
 rintro i m ds h1 ⟨rfl,hE1,hi,hF,hall⟩;refine Wc.le ?_ (Le.kn hall);clear hall;refine zy ?_;refine zC (ZAx rfl rfl) (fun hlt=>?_) (fun hlt=>?_)
 ·have hi':i<L.length:=by omega
  have hdr:L.drop i=L[i]::L.drop (i+1):=List.drop_eq_getElem_cons hi';rw[hdr,ZBP] at hF;obtain⟨b',o,oa,rfl,row,hrow0,hx⟩:=hL i hi';have hrow:=hE1.row hrow0;obtain⟨ai,ci,er,hsi⟩:=hx;subst er;have hc:ZAi h1 b' (o+i*1+0)=some (.slice ai L[i].length ci):=ZAr (k:=0) hrow rfl;have hfi:=hf _ (List.getElem_mem hi');have hli:=hLl _ (List.getElem_mem hi');clear hrow hrow0 hdr;generalize L[i]=l at *;refine zy ?_;refine zD (A_ix Und.h Tsz.h rfl rfl) ?_;refine zC (ZBw rfl rfl) (fun h60=>?_) (fun h60=>?_)
  ·rw[if_pos (by omega)] at hF
   rw[hF,if_pos (show (3:Int)≠0 by decide)];refine zy ?_;exact ZAB (ZAC rfl ⟨hE1,_,rfl,fun _=>rfl,fun q=>absurd q (by decide)⟩)
  rw[if_neg (by omega)] at hF;refine zy ?_;refine ZAS (fun (j:Nat) m ds h'=>ds=[]/\Ext h h'/\j<=l.length/\ZBx l=ZBx (l.drop j)/\AllK m [(0,.slice (some ⟨b',o,oa⟩) L.length c),(13,.slice (some ⟨b',o,oa⟩) L.length c),(14,i64 L.length),(15,i64 (i:Nat)),(22,.slice ai l.length ci),(23,i64 l.length),(24,i64 (j:Nat))]) (fun j=>l.length-j) 0 ?_ ?_
  ·exact⟨rfl,hE1,Nat.zero_le _,rfl,rfl,rfl,rfl,rfl,rfl,rfl,rfl,trivial⟩
  clear hE1 hc;rintro j m ds h2 ⟨rfl,hE2,hj,hG,hall⟩;refine Wc.le (ZBg fun hW2=>?_) (Le.kn hall);clear hall;refine zy ?_;refine zC (ZAx rfl rfl) (fun hlt2=>?_) (fun hlt2=>?_)
  ·have hj':j<l.length:=by omega
   rw[List.drop_eq_getElem_cons hj',ZBx] at hG;obtain⟨b2,o2,oa2,rfl,row,hrow,hx⟩:=hsi.1 j hj';have hfx:=hfi _ (List.getElem_mem hj');generalize l[j]=x at hG hx hfx;have hx':row=rowN x:=hx;subst hx';have hrow1:=hE2.row hrow;refine zy ?_;refine zD (A_ix Und.h Tsz.h rfl rfl) ?_;refine ZAH rfl rfl Zr.h Tsz.h rfl (fun _=>rfl) rfl rfl rfl fun h3 hE3 hW3 hg3 hn3=>?_;refine zy ?_;refine zW (ZIA hfx) fun h4 hE4=>?_;have hE:=(hE2.trans hE3).trans hE4;refine zy ?_
   by_cases hz:ZA8 x=0
   ·refine zE (A_ff (fun q=>q hz) (ZA3 rfl rfl)) ?_
    rw[if_neg (fun q=>q hz)] at hG;refine zy ?_;exact⟨j+1,(by show l.length-(j+1)<l.length-j;omega),rfl,hE,hj',hG,rfl,rfl,rfl,rfl,rfl,rfl,rfl,trivial⟩
   ·refine zE (A_tt hz (ZA3 rfl rfl)) ?_
    rw[if_pos hz] at hG;rw[hG,if_pos hz] at hF;rw[hF,if_pos hz];refine zy ?_;exact ZAB (ZAC rfl ⟨hE,_,rfl,fun _=>rfl,fun q=>absurd q hz⟩)
  have:j=l.length:=by omega
  subst this;rw[List.drop_length] at hG;have hG0:ZBx l=0:=hG;rw[if_neg (fun q=>q hG0)] at hF;refine zy ?_;exact⟨i+1,(by show L.length-(i+1)<L.length-i;omega),rfl,hE2,hi',hF,rfl,rfl,rfl,rfl,trivial⟩
 have:i=L.length:=by omega
 subst this;rw[List.drop_length] at hF;have hF0:ZBP L=0:=hF;have hok:=ZG1 hF0;rw[if_neg (fun q=>q hF0)];clear hF hlt hi;have hL1:ZAV 1 CatR h1 a L:=ZAV.ext (fun hr he=>hr.ext he) hL hE1
 have hfo:∀x∈L.flatten,x.Ok:=fun x hx=>by
  obtain⟨l,hl,hx⟩:=List.mem_flatten.1 hx;exact (hok l hl).2 x hx
 have hfl:L.flatten.length<=480:=by
  have:=ZPN fun l hl=>(hok l hl).1;omega
 refine zy ?_;refine zR (ZM0 hL1 (by omega) fun l hl=>(hok l hl).1) ?_;rintro v1 h2 ⟨hF2,hE2⟩;obtain⟨a2,rfl,hS2,-⟩:=ZAE.rowsAt (enc:=rowN) (k:=8) (fun _=>rfl) hF2 rfl;refine zy ?_;refine zR (ZHL hS2.1 hfo (by omega)) ?_;rintro v3 h3 ⟨hE3,hF3⟩;have hE:=(hE1.trans hE2).trans hE3;have hF3':ZAE h h3 v3 _ 8 _ _:=hF3.base ((hE1.trans hE2).2.1);have hsh:∃a n c,v3=.slice a n c/\n=(ZAO L.flatten).length:=by
  rcases (show ZAE _ _ _ _ _ _ _ from hF3) with ⟨e,-,hz⟩|⟨b',sp,op,e,_⟩
  ·exact⟨_,_,_,e,hz.symm⟩
  ·exact⟨_,_,_,e,rfl⟩
 obtain⟨a3,n3,c3,rfl,rfl⟩:=hsh;have hn:=ZCu L.flatten;refine zy ?_;refine zC (ZBw rfl rfl) (fun h60=>?_) (fun h60=>?_)
 ·rw[if_pos (by omega)]
  refine zy ?_;exact ZAB (ZAC rfl ⟨hE,_,rfl,fun _=>rfl,fun q=>absurd q (by decide)⟩)
 rw[if_neg (by omega)];refine zy ?_;exact ZAB (ZAC rfl ⟨hE,_,rfl,fun q=>absurd rfl q,fun _=>hF3'⟩)
structure Tk where
 r:Rl
 wlo:Int
 whi:Int
 notes:List Nt
structure Ads where
 am:Option Addr
 cm:Nat
 as':Option Addr
 cs:Nat
 al:Option Addr
 cl:Nat
 an:Option Addr
 cn:Nat
abbrev ZD9 (t:Tk)(d:Ads):List Value:=[str t.r.name,i64 t.r.gauge,i64 t.r.base,i64 t.r.frames,i64 t.r.ylo,i64 t.r.yhi,i64 t.r.keep,.slice d.am t.r.marks.length d.cm,.slice d.as' t.r.syms.length d.cs,.slice d.al t.r.lens.length d.cl,i64 t.wlo,i64 t.whi,.slice d.an t.notes.length d.cn]
structure TkAt (h:Heap)(t:Tk)(d:Ads):Prop where
 r:RlAt h d.am d.as' d.al t.r
 n:TabA rowN 8 h d.an t.notes
theorem TkAt.ext {h h':Heap}{t:Tk}{d:Ads}(a:TkAt h t d)(he:Ext h h'):TkAt h' t d:=⟨a.r.ext he,a.n.ext' he⟩
structure Tk.Fit (t:Tk):Prop where
 r:t.r.Fit
 n:Len t.notes
 who:∀x∈t.notes,x.Fit
def ZCB (fr:Int):List Nt->Int
 | []=>0
 | x::l=>if ZA8 x≠0 then ZA8 x else if fr<=x.til then 4 else ZCB fr l
def ZAl (t:Tk):Int :=
 if ZBc t.r≠0 then ZBc t.r
 else if (t.wlo<1\/400000<t.wlo)\/(t.whi<1\/400000<t.whi) then 7
 else if t.whi<t.wlo then 2
 else if 60<t.notes.length then 3
 else ZCB t.r.frames t.notes
structure Tk.Ok (t:Tk):Prop where
 r:t.r.Ok
 w:1<=t.wlo/\t.wlo<=t.whi
 whi:t.whi<=400000
 nlen:t.notes.length<=60
 n:∀x∈t.notes,x.Ok
 til:∀x∈t.notes,x.til<t.r.frames
theorem ZE8 {fr:Int}:∀{l:List Nt},ZCB fr l=0->∀x∈l,x.Ok/\x.til<fr
 | [],_,_,h=>nomatch h
 | y::l,h,x,hx=>by
  unfold ZCB at h
  by_cases h1:ZA8 y=0
  ·rw[if_neg (fun q=>q h1)] at h
   split at h
   ·exact absurd h (by decide)
   rename_i h2
   rcases List.mem_cons.1 hx with rfl|hx
   ·exact⟨ZGE h1,by omega⟩
   ·exact ZE8 h x hx
  ·rw[if_pos h1] at h;exact absurd h h1
theorem ZCQ {t:Tk}(h:ZAl t=0):t.Ok:=by
 unfold ZAl at h
 by_cases h1:ZBc t.r=0
 rotate_left
 ·rw[if_pos h1] at h;exact absurd h h1
 rw[if_neg (fun q=>q h1)] at h
 split at h
 ·exact absurd h (by decide)
 split at h
 ·exact absurd h (by decide)
 split at h
 ·exact absurd h (by decide)
 exact⟨ZId h1,by omega,by omega,by omega,fun x hx=>(ZE8 h x hx).1,fun x hx=>(ZE8 h x hx).2⟩
set_option maxHeartbeats 4000000 in
theorem ZP4 {t:Tk}{d:Ads}{h:Heap}(hF:t.Fit)(hR:TkAt h t d) :
  Sv Tryz.prog 66 [.agg ⟨ZD9 t d⟩] h (RetP fun v h'=>(∃p a,v=.tuple ⟨[i64 p,i64 a,i64 (ZAl t)]⟩)/\Ext h h'):=by
 obtain⟨hFr,hFn,hFw⟩:=hF;refine ZA0 fun hw=>?_;refine ZAF Tryz.func66 rfl (by rw[Tryz.ntmps66];rfl) ?_;show Wc Tryz.prog ⟨66,64,none⟩ _ _ _ _ _;refine zy ?_;refine ZAv rfl rfl rfl fun h1 hE1 hW1 hg1 hn1=>?_;generalize hb1:h.nx=b1 at *;refine zy ?_;refine zR (ZHe hFr (hR.r.ext hE1)) ?_;rintro _ h2 ⟨⟨p,a,rfl⟩,hE2⟩;have g2:=hE2.get hg1;replace hE2:=hE1.trans hE2;clear hg1 hE1;refine zy ?_
 by_cases c1:ZBc t.r=0
 rotate_left
 ·refine zD (A_tt c1 (ZA3 rfl rfl)) ?_
  exact ZAB (ZAC rfl ⟨⟨_,_,by unfold ZAl;rw[if_pos c1];rfl⟩,hE2⟩)
 refine zE (A_ff (fun q=>q c1) (ZA3 rfl rfl)) ?_;have e1:ZAl t=if (t.wlo<1\/400000<t.wlo)\/(t.whi<1\/400000<t.whi) then 7 else if t.whi<t.wlo then 2 else if 60<t.notes.length then 3 else ZCB t.r.frames t.notes:=by unfold ZAl;rw[if_neg (fun q=>q c1)]
 rw[e1];clear e1 c1;refine zy ?_
 by_cases c2:t.wlo<1\/400000<t.wlo
 ·refine zV (ZBJ (decide_eq_true c2) _) ?_
  exact ZAB (ZAC rfl ⟨⟨_,_,by rw[if_pos (.inl c2)];rfl⟩,hE2⟩)
 refine zV (ZBJ (decide_eq_false c2) _) ?_
 by_cases c3:t.whi<1\/400000<t.whi
 ·refine zV (ZBJ (decide_eq_true c3) _) ?_
  exact ZAB (ZAC rfl ⟨⟨_,_,by rw[if_pos (.inr c3)];rfl⟩,hE2⟩)
 refine zU (ZBJ (decide_eq_false c3) _) ?_;rw[if_neg (by omega)];refine zy ?_;refine zC (ZBw rfl rfl) (fun c4=>?_) (fun c4=>?_)
 ·refine zy ?_
  exact ZAB (ZAC rfl ⟨⟨_,_,by rw[if_pos c4];rfl⟩,hE2⟩)
 rw[if_neg c4];refine zy ?_;refine zC (ZBw rfl rfl) (fun c5=>?_) (fun c5=>?_)
 ·refine zy ?_
  exact ZAB (ZAC rfl ⟨⟨_,_,by rw[if_pos (by omega)];rfl⟩,hE2⟩)
 rw[if_neg (by omega)];refine zy ?_;refine ZAS (fun (k:Nat) m ds h'=>ds=[]/\Ext h h'/\h'.get b1=some (.cells (ZD9 t d) 31 false)/\k<=t.notes.length/\ZCB t.r.frames t.notes=ZCB t.r.frames (t.notes.drop k)/\AllK m [(1,.pointer (some ⟨b1,0,none⟩)),(43,.slice d.an t.notes.length d.cn),(44,i64 t.notes.length),(45,i64 (k:Nat))]) (fun k=>t.notes.length-k) 0 ?_ ?_
 ·exact⟨rfl,hE2,g2,Nat.zero_le _,rfl,rfl,rfl,rfl,rfl,trivial⟩
 clear g2 hE2;rintro k m ds h3 ⟨rfl,hE3,g3,hk,hF,hall⟩;refine Wc.le (ZBg fun hW3=>?_) (Le.kn hall);clear hall;refine zy ?_;refine zC (ZAx rfl rfl) (fun hlt=>?_) (fun hlt=>?_)
 ·have hk':k<t.notes.length:=by omega
  rw[List.drop_eq_getElem_cons hk',ZCB] at hF;obtain⟨bm,o,oa,ean,row,hrow,hx⟩:=hR.n k hk';have hfx:=hFw _ (List.getElem_mem hk');generalize t.notes[k]=x at hF hx hfx;have hx':row=rowN x:=hx;subst hx';have hrow1:=hE3.row hrow;rw[ean];refine zy ?_;refine zD (A_ix Und.h Tsz.h rfl rfl) ?_;refine ZAa rfl rfl Zr.h fun h4 hE4 hW4 hg4 hn4=>?_;refine zy ?_;refine ZAe rfl Tsz.h rfl rfl hg4 rfl rfl rfl fun h5 hU=>?_;have hE5:=hU.ext (hE3.trans hE4) hw (by have:=hE3.2.1;omega);have hg5:=hU.at';have g5:h5.get b1=some (.cells (ZD9 t d) 31 false):=hU.get (fun e=>by have:=hW3 _ _ g3;omega) (hE4.get g3);clear hrow1 hU hg4 g3 hrow hE3 hE4
  refine zy ?_;refine zW (ZIA hfx) fun h6 hE6=>?_;have g6:=hE6.get g5;have hg6:=hE6.get hg5;replace hE6:=hE5.trans hE6;clear g5 hg5 hE5;refine zy ?_
  by_cases hz:ZA8 x=0
  rotate_left
  ·refine zE (A_tt hz (ZA3 rfl rfl)) ?_
   rw[if_pos hz] at hF;refine zy ?_;exact ZAB (ZAC rfl ⟨⟨_,_,by rw[hF];rfl⟩,hE6⟩)
  refine zE (A_ff (fun q=>q hz) (ZA3 rfl rfl)) ?_;rw[if_neg (fun q=>q hz)] at hF;refine zy ?_;refine zC (ZHO rfl rfl) (fun c6=>?_) (fun c6=>?_)
  ·rw[if_pos c6] at hF
   refine zy ?_;exact ZAB (ZAC rfl ⟨⟨_,_,by rw[hF];rfl⟩,hE6⟩)
  rw[if_neg c6] at hF;refine zy ?_;exact⟨k+1,(by show t.notes.length-(k+1)<t.notes.length-k;omega),rfl,hE6,g6,hk',hF,rfl,rfl,rfl,rfl,trivial⟩
 have:k=t.notes.length:=by omega
 subst this;rw[List.drop_length] at hF;have hF0:ZCB t.r.frames t.notes=0:=hF;refine zy ?_;exact ZAB (ZAC rfl ⟨⟨_,_,by rw[hF0];rfl⟩,hE3⟩)
abbrev ZHk (t:Tk)(d:Ads)(S:List Nt)(aS:Option Addr)(cS:Nat)(pic:Value):List Value:=[str t.r.name,i64 t.r.gauge,i64 t.r.base,i64 t.r.frames,i64 t.r.ylo,i64 t.r.yhi,i64 t.r.keep,.slice d.am t.r.marks.length d.cm,.slice d.as' t.r.syms.length d.cs,.slice d.al t.r.lens.length d.cl,i64 t.wlo,i64 t.whi,.slice d.an t.notes.length d.cn,.slice aS S.length cS,pic]
abbrev tabT:TypeId:=157
theorem ZOr {h:Heap}{b o n:Nat}{vs l:List Value}{t:TypeId}{op:Bool}(hg:h.get b=some (.cells vs t op))(hc:cut vs o n=some l):rdc h b o n=some l:=by
 unfold rdc;rw[hg];exact hc
theorem ZJQ (l:List Bool):allOne (l.map Value.bool)=true:=by
 induction l with
 | nil=>rfl
 | cons x l ih=>unfold allOne at ih ⊢;rw[List.map_cons,List.all_cons,ih];rfl
set_option maxHeartbeats 4000000 in
theorem ZJi {h:Heap}{bt:Nat}{op:Bool}{t:Tk}{d:Ads}{S:List Nt}{aS:Option Addr}{cS:Nat}{pic:Value}{kind:Int}{n:Nat}(hg:h.get bt=some (.cells (ZHk t d S aS cS pic) tabT op))(hS:TabA rowN 8 h aS S)(hn:t.r.frames=n)(hn1:n<=200000)(hn0:0<n)(hx:∀x∈S,(0<=x.frm/\x.frm<=x.til)/\x.til<n)(hl:S.length<=1000) :
  Sv Tryz.prog 67 [.pointer (some ⟨bt,0,none⟩),i64 kind] h (RetP fun v h'=>Ext h h'/\∃b,v=.slice (some ⟨b,0,none⟩) n n/\h.nx<=b/\h'.get b=some (.cells ((ZDE S kind n).map Value.bool) 4 false)):=by
 refine ZA0 fun hw=>?_;have hr1:∀k:Nat,rep k (Value.bool false).cells.toList=List.replicate k (.bool false):=fun k=>ZKp k _;refine ZAF Tryz.func67 rfl (by rw[Tryz.ntmps67];rfl) ?_;show Wc Tryz.prog ⟨67,60,none⟩ _ _ _ _ _;refine zy ?_;have hgr:=((Ext.add hw (.cells (rep n (Value.bool false).cells.toList) 4 false)).trans (Ext.rsv _)).get hg;refine ZAR hmix [0,1,3,7,15,31,63,0,128,384,896,1920,3968,8064,127,32767] [0,1,2,3,4,5,6,7,8,9,10,11,12,13] (some 14) [([],(some 15)),([],none)] (by kernel_rfl) (by kernel_rfl) ?_;refine z_m ?_;refine z_q ?_;refine z_f ?_;refine z_f ?_;refine z_f ?_;refine z_l ?_
 refine ZBS (nk:=.sl _ _) rfl rfl rfl rfl rfl (fun _ _ hs=>N_ms (by':=1) (sz:=1) hs Und.h inferInstance Zr.h rfl rfl hn (by omega) (by omega)) ?_;refine z_m ?_;refine z_q ?_;refine z_f ?_;refine z_f ?_;refine z_f ?_;refine z_l ?_;refine ZBS (nk:=.sl _ _) rfl rfl rfl rfl rfl (fun _ _ hs=>N_ms (by':=1) (sz:=1) hs Und.h inferInstance Zr.h rfl rfl hn (by omega) (by omega)) ?_;refine ZAM (h1:=(rsv (Heap.add h _))) [0,1,2,3,4,5,6] (by kernel_rfl) rfl (ZAA rfl) rfl rfl rfl (ZBm rfl rfl (ZAY rfl) ?_);refine ZAM (h1:=(Heap.add (Heap.add h _) _)) [0,1,2,3,4,5,6,7,8,9,10,11,12,13,14] (by kernel_rfl) rfl (by refine ZCf (i:=13) (nk:=.sl _ _) rfl rfl rfl rfl rfl (fun _ _ hs=>N_ms (by':=1) (sz:=1) hs Und.h inferInstance Zr.h rfl rfl hn (by omega) (by omega)) rfl ?_;refine t_l 12 ?_;refine t_f 11 ?_;refine t_f 10 ?_;refine t_f 9 ?_;refine t_q 8 ?_;refine t_m 7 ?_;exact ZAA rfl) rfl rfl rfl (ZBm rfl rfl (ZAY rfl) ?_)
 refine ZAc (h1:=(Heap.add (Heap.add h _) _)) (ZAA rfl) rfl ?_;obtain⟨H2,eH⟩:∃H2,H2=(h.add (.cells (rep n (Value.bool false).cells.toList) 4 false)).add (.cells (rep n (Value.bool false).cells.toList) 4 false):=⟨_,rfl⟩;rw[<-eH];have hE2:Ext h H2:=by rw[eH];exact (Ext.add hw _).trans (Ext.add (hw.add _) _)
 have hO2:Own h H2 [ceI (h.nx+1) (List.replicate n (.bool false)) 4 false,ceI h.nx (List.replicate n (.bool false)) 4 false]:=by
  rw[<-hr1 n,eH];exact ((Own.nil h h).newCe hw (Nat.le_refl _) (Ext.add hw _) Heap.get_add_same (Nat.le_refl _)).newCe (hw.add _) (Nat.le_succ _) (Ext.add (hw.add _) _) Heap.get_add_same (Nat.le_refl _)
 clear eH hr1 hgr;obtain⟨b1,hb1⟩:∃b1,h.nx=b1:=⟨_,rfl⟩;rw[hb1] at hO2 ⊢;refine zy ?_;refine ZAS (fun (i:Nat) m ds h'=>ds=[]/\Ext h h'/\i<=n/\Own h h' [ceI (b1+1) (List.replicate i (.bool true)++List.replicate (n-i) (.bool false)) 4 false,ceI b1 (List.replicate n (.bool false)) 4 false]/\AllK m [(0,.pointer (some ⟨bt,0,none⟩)),(1,i64 kind),(5,.slice (some ⟨b1,0,none⟩) n n),(6,.slice (some ⟨b1+1,0,none⟩) n n),(25,i64 n),(26,i64 (i:Nat))]) (fun i=>n-i) 0 ?_ ?_
 ·exact⟨rfl,hE2,Nat.zero_le _,hO2,rfl,rfl,rfl,rfl,rfl,rfl,trivial⟩
 clear hO2 hE2;rintro i m ds h3 ⟨rfl,hE3,hi,hO3,hall⟩;refine Wc.le ?_ (Le.kn hall);clear hall;refine zy ?_;refine zC (ZAx rfl rfl) (fun hlt=>?_) (fun hlt=>?_)
 ·have hi':i<n:=by omega
  refine zy ?_;refine zD (A_ix Und.h Tsz.h rfl rfl) ?_;refine ZAU (r:=List.replicate (i+1) (.bool true)++List.replicate (n-(i+1)) (.bool false)) hw hE3 rfl Tsz.h rfl rfl hO3 rfl rfl ?_ fun h4 hW4 hO4 hE4=>?_
  ·refine (ZFy (by rw[List.length_append,List.length_replicate,List.length_replicate];omega)).trans ?_
   congr 1
   obtain⟨q,hq⟩:∃q,n-i=q+1:=⟨n-i-1,by omega⟩;rw[Nat.zero_add,Nat.mul_one,hq,List.replicate_succ,List.set_append_right _ _ (by rw[List.length_replicate];omega),List.length_replicate,Nat.sub_self,List.set_cons_zero,List.replicate_succ',List.append_assoc];rw[show n-(i+1)=q by omega];rfl
  refine zy ?_;exact⟨i+1,(by show n-(i+1)<n-i;omega),rfl,hE4,hi',hO4,rfl,rfl,rfl,rfl,rfl,rfl,trivial⟩
 have:i=n:=by omega
 subst this;rw[Nat.sub_self,List.replicate_zero,List.append_nil] at hO3;have hg3:=hE3.get hg;have hm0:(ZDE [] kind i).map Value.bool=List.replicate i (.bool false):=by
  refine List.ext_getElem? fun f=>?_;rw[List.getElem?_map,ZEQ,List.getElem?_replicate]
  split <;> rfl
 rw[<-hm0] at hO3;clear hlt hi hm0;refine zy ?_;refine ZAS (fun (k:Nat) m ds h'=>ds=[]/\Ext h h'/\k<=S.length/\Own h h' [ceI b1 ((ZDE (S.take k) kind i).map Value.bool) 4 false,ceI (b1+1) (List.replicate i (.bool true)) 4 false]/\AllK m [(1,i64 kind),(5,.slice (some ⟨b1,0,none⟩) i i),(6,.slice (some ⟨b1+1,0,none⟩) i i),(36,.slice aS S.length cS),(37,i64 S.length),(38,i64 (k:Nat))]) (fun k=>S.length-k) 0 ?_ ?_
 ·exact⟨rfl,hE3,Nat.zero_le _,hO3.up2,rfl,rfl,rfl,rfl,rfl,rfl,trivial⟩
 clear hO3 hE3 hg3;rintro k m ds h3 ⟨rfl,hE3,hk,hO3,hall⟩;refine Wc.le (ZBg fun hW3=>?_) (Le.kn hall);clear hall;refine zy ?_;refine zC (ZAx rfl rfl) (fun hlt=>?_) (fun hlt=>?_)
 ·have hk':k<S.length:=by omega
  obtain⟨b,o,oa,eaS,row,hrow,hxr⟩:=hS k hk';have hxk:=hx _ (List.getElem_mem hk');have htk:S.take (k+1)=S.take k++[S[k]]:=by rw[List.take_add_one,List.getElem?_eq_getElem hk'];rfl
  generalize S[k]=x at hxr hxk htk;have hx':row=rowN x:=hxr;subst hx';have hrow1:=hE3.row hrow;rw[eaS];refine zy ?_;refine zD (A_ix Und.h Tsz.h rfl rfl) ?_;refine ZAH rfl rfl Zr.h Tsz.h rfl (fun _=>rfl) rfl rfl rfl fun h4 hE4 hW4 hg4 hn4=>?_;have hO4:=hO3.ext hE4;replace hE4:=hE3.trans hE4;refine zy ?_
  by_cases hkk:x.kind=kind
  ·refine zE (A_tt hkk (ZBA rfl rfl)) ?_
   obtain⟨a0,ha0⟩:∃a0:Nat,x.frm=a0:=⟨x.frm.toNat,by omega⟩;obtain⟨c0,hc0⟩:∃c0:Nat,x.til=c0:=⟨x.til.toNat,by omega⟩;refine zy ?_;refine zD (ZQD (k:=a0) (n:=c0+1) Und.h Tsz.h rfl rfl rfl rfl ha0 (by rw[hc0];rfl) (by omega) (by omega)) ?_;have hmin:Nat.min i (c0+1-a0)=c0+1-a0:=Nat.min_eq_right (by omega);have hst:=ZOW (S:=S.take k) (n:=i) (g:=Value.bool) hkk ha0 hc0 (by omega) (by omega);refine ZS0 (l:=List.replicate (c0+1-a0) (.bool true)) rfl rfl rfl rfl rfl Und.h Tsz.h rfl rfl hO4.p1 (ZOr hO4.p2 ?_) ?_ (ZDL ?_) fun h5 hU=>?_
   ·rw[hmin,ZEA (by rw[List.length_replicate];omega),List.drop_zero,List.take_replicate,Nat.min_eq_left (by omega)]
   ·rw[<-List.map_replicate];exact ZJQ _
   ·rw[List.length_replicate,List.length_map,ZDa];omega
   obtain⟨hO5,hE5⟩:=hO4.putCe hW4 hE4 hw hU;rw[List.length_replicate,Nat.zero_add,Nat.mul_one,hst] at hO5;refine zy ?_;exact⟨k+1,(by show S.length-(k+1)<S.length-k;omega),rfl,hE5,hk',(by rw[htk];exact hO5),rfl,rfl,rfl,rfl,rfl,rfl,trivial⟩
  ·refine zD (A_ff hkk (ZBA rfl rfl)) ?_
   exact⟨k+1,(by show S.length-(k+1)<S.length-k;omega),rfl,hE4,hk',(by rw[htk,ZOd _ hkk];exact hO4),rfl,rfl,rfl,rfl,rfl,rfl,trivial⟩
 have:k=S.length:=by omega
 subst this;rw[List.take_length] at hO3;refine zy ?_;exact ZAB (ZAC rfl ⟨hE3,b1,rfl,Nat.le_refl _,hO3.p1⟩)
abbrev xUC1:List Nat:=[0,1,2,3,4,5,6,7,8,9,10,11,12,13]
noncomputable def ldT (t:Tk):List Bool:=ZDE (ZAO t.notes) 3 t.r.frames.toNat
abbrev picV (bp n:Nat):Value:=.slice (some ⟨bp,0,none⟩) n n
def TbAt (h:Heap)(bt:Nat)(t:Tk)(d:Ads):Prop:=∃aS cS bp,h.get bt=some (.cells (ZHk t d (ZAO t.notes) aS cS (picV bp (t.r.frames.toNat+1))) tabT false)/\TabA rowN 8 h aS (ZAO t.notes)/\h.get bp=some (.cells (picL (ldT t)) 3 false)/\RlAt h d.am d.as' d.al t.r
theorem TbAt.ext {h h':Heap}{bt:Nat}{t:Tk}{d:Ads}(a:TbAt h bt t d)(he:Ext h h'):TbAt h' bt t d:=by
 obtain⟨aS,cS,bp,h1,h2,h3,h4⟩:=a;exact⟨aS,cS,bp,he.get h1,h2.ext' he,he.get h3,h4.ext he⟩
theorem ZTh (x0 x1 x2 x3 x4 x5 x6 x7 x8 x9 x10 x11 x12:Value)(a:Option Addr)(n c:Nat):Instr.fill ([(0,13),(13,1),(14,1)].toArray[·]?) (Value.agg ⟨[str [],i64 0,i64 0,i64 0,i64 0,i64 0,i64 0,.slice none 0 0,.slice none 0 0,.slice none 0 0,i64 0,i64 0,.slice none 0 0,.slice none 0 0,.slice none 0 0]⟩).cells [(0,.agg ⟨[x0,x1,x2,x3,x4,x5,x6,x7,x8,x9,x10,x11,x12]⟩),(1,.slice a n c)]=some ⟨[x0,x1,x2,x3,x4,x5,x6,x7,x8,x9,x10,x11,x12,.slice a n c,.slice none 0 0]⟩:=by kernel_rfl
theorem ZJE {t:Tk}(h:t.Ok):∀x∈ZAO t.notes,x.Ok/\x.til<t.r.frames:=fun x hx=>⟨h.n x (ZBa.1 hx).1,h.til x (ZBa.1 hx).1⟩
set_option maxHeartbeats 4000000 in
theorem ZOb {t:Tk}{d:Ads}{h:Heap}(hF:t.Fit)(hR:TkAt h t d) :
  Sv Tryz.prog 36 [.agg ⟨ZD9 t d⟩] h (RetP fun v h'=>Ext h h'/\((ZAl t≠0/\v=.tuple ⟨[.pointer none,i64 (ZAl t)]⟩)\/(ZAl t=0/\∃bt,v=.tuple ⟨[.pointer (some ⟨bt,0,none⟩),i64 0]⟩/\h.nx<=bt/\TbAt h' bt t d/\Foot h h' (fun k=>RlAt k d.am d.as' d.al t.r->TbAt k bt t d)))):=by
 refine ZA0 fun hw=>?_;refine ZAF Tryz.func36 rfl (by rw[Tryz.ntmps36];rfl) ?_;show Wc Tryz.prog ⟨36,71,none⟩ _ _ _ _ _;refine zy ?_;refine ZAv rfl rfl rfl fun h1 hE1 hW1 hg1 hn1=>?_;refine zy ?_;refine zR (ZP4 hF (hR.ext hE1)) ?_;rintro _ h2 ⟨⟨p,a,rfl⟩,hE2⟩;have g2:=hE2.get hg1;replace hE2:=hE1.trans hE2;clear hg1 hE1;refine zy ?_
 by_cases c1:ZAl t=0
 rotate_left
 ·refine zD (A_tt c1 (ZA3 rfl rfl)) ?_
  exact ZAB (ZAC rfl ⟨hE2,.inl ⟨c1,rfl⟩⟩)
 refine zE (A_ff (fun q=>q c1) (ZA3 rfl rfl)) ?_;have hok:=ZCQ c1;have hst:=ZJE hok;have hsl:=ZCu t.notes;have hnl:=hok.nlen;obtain⟨n,hn⟩:∃n:Nat,t.r.frames=n:=⟨t.r.frames.toNat,by have:=hok.r.frames;omega⟩;have hn':t.r.frames.toNat=n:=by omega
 have hfr:=hok.r.frames;refine zy ?_;refine ZBg fun hw2=>?_;refine ZAR hmix [0,0,2,6,15,31,63] [0,1,2] (some 3) [([4,5],(some 6)),([],none)] (by kernel_rfl) (by kernel_rfl) ?_;refine z_r ?_;refine z_f ?_;refine z_l ?_;refine ZAM [1,2] (by kernel_rfl) rfl (ZAA rfl) rfl nb rfl (ZAT (ZAg rfl rfl rfl rfl rfl Bod.h (ZHL (hR.n.ext' hE2) hok.n (by omega)) (fun v3 h3 hv hw3=>?_)));obtain⟨hE3,hF3⟩:=hv;obtain⟨a3,rfl,hS3,-⟩:=ZAE.rowsAt (enc:=rowN) (k:=8) (fun _=>rfl) hF3 rfl;have k3:=hE3.get g2;have k3r:=(Ext.rsv h3).get k3;refine ZAI rfl rfl rfl rfl rfl (fun _=>ZKc rfl (ZTh _ _ _ _ _ _ _ _ _ _ _ _ _ _ _ _)) ?_
 refine ZBS (nk:=.ptr) rfl rfl rfl rfl rfl (fun _ _ hs=>ZU6 hs rfl) ?_;refine ZAM (h1:=(Heap.add h3 _)) [0,1,2,3,4,5] (by kernel_rfl) rfl (by refine t_r 0 ?_;exact ZAA rfl) rfl rfl rfl (ZBm rfl rfl (ZAY rfl) ?_);refine ZAc (h1:=(Heap.add h3 _)) (ZAA rfl) rfl ?_;obtain⟨sI,hsI⟩:∃sI,sI=slI h (.slice a3 (ZAO t.notes).length (ZAO t.notes).length) 46 8 ((ZAO t.notes).flatMap rowN) (ZAO t.notes).length:=⟨_,rfl⟩;have hO3:Own h h3 [sI]:=by rw[hsI];exact (Own.nil h h2).newSl hw2 hE2.2.1 hE3 hF3
 replace hE3:=hE2.trans hE3;obtain⟨H4,eH⟩:∃H4,H4=h3.add (.cells (Value.agg ⟨ZHk t d (ZAO t.notes) a3 (ZAO t.notes).length (.slice none 0 0)⟩).cells.toList tabT false):=⟨_,rfl⟩;rw[<-eH];have hE34:Ext h3 H4:=by rw[eH];exact Ext.add hw3 _
 have hE4:Ext h H4:=hE3.trans hE34;have hO4:Own h H4 [ceI h3.nx (ZHk t d (ZAO t.notes) a3 (ZAO t.notes).length (.slice none 0 0)) tabT false,sI]:=hO3.newCe hw3 hE3.2.1 hE34 (by rw[eH];exact Heap.get_add_same) (Nat.le_refl _);have hS4:TabA rowN 8 H4 a3 (ZAO t.notes):=TabA.ext' hS3.1 hE34;have hbt:h.nx<=h3.nx:=hE3.2.1;have hR4:RlAt H4 d.am d.as' d.al t.r:=hR.r.ext hE4;have k4:=hE34.get k3;clear eH hE34 hS3 hF3 k3 k3r hE3 g2 hE2 hw3;generalize h3.nx=bt at *;refine zy ?_;have hmk:=ZJi (kind:=3) hO4.p1 hS4 hn (by omega) (by omega) (fun x hx=>⟨(hst x hx).1.frm,by have:=(hst x hx).2;omega⟩) (by omega)
 refine ZA4 fun hW4=>ZA5 rfl rfl rfl rfl rfl Bod.h rfl rfl hmk ?_;rintro _ h5 ⟨hE45,bl,rfl,hbl,hgl⟩;have eld:ZDE (ZAO t.notes) 3 n=ldT t:=by unfold ldT;rw[hn']
 have hll:(ldT t).length=n:=by rw[<-eld,ZDa]
 rw[eld] at hgl;have hO5:=hO4.newCe hW4 hE4.2.1 hE45 hgl hbl;have hE5:=hE4.trans hE45;have hS5:=TabA.ext' hS4 hE45;have hgb5:h5.get bt=_:=hO5.p2;have k5:=hE45.get k4;clear hO4 hS4 hmk hW4 hgl hbl eld;refine zy ?_;refine ZA4 fun hW5=>?_;refine ZKS (by':=8) (k:=n+1) (n:=t.r.frames+1) rfl rfl Und.h inferInstance Zr.h rfl rfl (by rw[hn];rfl) (by omega) (by omega) fun h6 hE6 hW6 hg6 hn6=>?_;have er:rep (n+1) (Value.int .i64 0).cells.toList=picP (ldT t) 0:=by rw[ZOZ,hll];exact ZKp _ _
 rw[er] at hg6;have hO6:=hO5.newCe hW5 hE5.2.1 hE6 hg6 (Nat.le_refl _);replace hE6:=hE5.trans hE6;generalize h5.nx=bp at *;clear hO5 hgb5 er;have hO6':=hO6.up3;have hg6b:=hO6'.p1;refine zy ?_;refine ZAU (r:=ZHk t d (ZAO t.notes) a3 (ZAO t.notes).length (picV bp (n+1))) hw hE6 rfl Tsz.h rfl rfl hO6' rfl rfl rfl fun h7 hW7 hO7 hE7=>?_;clear hg6b hO6' hO6 hE6 hW6 hg6 k5 hE5 hE45 hE4 hW5 k4;refine zy ?_;refine ZAS (fun (f:Nat) m ds h'=>ds=[]/\Ext h h'/\f<=n/\Own h h' [ceI bt (ZHk t d (ZAO t.notes) a3 (ZAO t.notes).length (picV bp (n+1))) tabT false,ceI bp (picP (ldT t) f) 3 false,ceI bl ((ldT t).map Value.bool) 4 false,sI]/\AllK m [(7,.pointer (some ⟨bt,0,none⟩)),(36,.slice (some ⟨bl,0,none⟩) n n),(37,i64 n),(38,i64 (f:Nat))]) (fun f=>n-f) 0 ?_ ?_
 ·exact⟨rfl,hE7,Nat.zero_le _,hO7,rfl,rfl,rfl,rfl,trivial⟩
 clear hO7 hE7 hW7;rintro f m ds h8 ⟨rfl,hE8,hf,hO8,hall⟩;refine Wc.le ?_ (Le.kn hall);clear hall;refine zy ?_;refine zC (ZAx rfl rfl) (fun hlt=>?_) (fun hlt=>?_)
 ·have hf':f<n:=by omega
  have hgb:=hO8.p1;have hgp:=hO8.p2;have hgl:=hO8.p3;have hfl:f<(ldT t).length:=by omega
  have hsu:=ZKR hfl;have hc1:ZAi h8 bl (0+f*1)=some (.bool (ldT t)[f]):=ZAP hgl (by rw[ZAq,Nat.zero_add,Nat.mul_one,List.getElem?_map,List.getElem?_eq_getElem hfl];rfl);have hc2:ZAi h8 bp (0+f*1)=some (i64 (picN (ldT t) f:Nat)):=ZAP hgp (by rw[ZAq,Nat.zero_add,Nat.mul_one,ZGX (by omega),if_pos (Nat.le_refl _)]);have hps:=ZQC hfl;have hpl:=ZTO (ldT t) f;have hgb':h8.get bt=some (.cells (ZHk t d (ZAO t.notes) a3 (ZAO t.notes).length (picV bp (n+1))) tabT false):=hgb;generalize (ldT t)[f]=is at *;clear hgb hgl;refine zy ?_;refine zD (A_ix Und.h Tsz.h rfl rfl) ?_;refine ZAR hmix [0,1,3,7,0,16,0,64,192,448,0,1984,4032,8191,16383] xUC1 (some 14) [([],none)] (by kernel_rfl) (by kernel_rfl) ?_
  refine z_m ?_;refine z_q ?_;refine z_f ?_;refine z_l ?_;refine z_m ?_;refine z_y ?_;refine z_m ?_;refine z_q ?_;refine z_f ?_;refine z_l ?_;refine z_m ?_;refine ZAI rfl rfl rfl rfl rfl (fun _=>A_ix (k:=f) Und.h Tsz.h rfl rfl) ?_;refine z_l ?_;refine ZAI rfl rfl rfl rfl rfl (fun _=>ZAN (k:=f+1) Und.h Tsz.h rfl rfl (by omega) (by omega)) ?_;refine ZAM xUC1 (by kernel_rfl) rfl (ZAA rfl) rfl nb rfl (ZAz (r:=(picP (ldT t) f).set (f+1) (i64 (picN (ldT t) f:Nat))) rfl hw hE8 rfl Tsz.h rfl rfl hO8.up2 rfl rfl (by rw[Nat.zero_add,Nat.mul_one];exact ZFy (by rw[ZDl];omega)) (fun h9 hO9 hE9=>?_));refine ZAc (ZAA rfl) nb' ?_
  have hgb9:h9.get bt=some (.cells (ZHk t d (ZAO t.notes) a3 (ZAO t.notes).length (picV bp (n+1))) tabT false):=hO9.p2;refine zy ?_
  cases is with
  | true =>
   rw[if_pos rfl] at hsu;rw[hsu] at hps;refine zy ?_;refine⟨f+1,(by show n-(f+1)<n-f;omega),rfl,hE9,hf',?_,rfl,rfl,rfl,rfl,trivial⟩;rw[<-hps];exact hO9.up2
  | false =>
   rw[if_neg (by decide)] at hsu;rw[hsu] at hps;have hc9:ZAi h9 bp (0+(f+1)*1)=some (i64 (picN (ldT t) f:Nat)):=ZAP hO9.p1 (by rw[ZAq,Nat.zero_add,Nat.mul_one,List.getElem?_set_self (by rw[ZDl];omega)]);refine zy ?_;refine zD (ZAN (k:=f+1) Und.h Tsz.h rfl rfl (by omega) (by omega)) ?_;refine zD (ZAN (k:=f+1) Und.h Tsz.h rfl rfl (by omega) (by omega)) ?_;refine ZAU (r:=picP (ldT t) (f+1)) hw hE9 rfl Tsz.h rfl rfl hO9 rfl rfl ?_ fun h10 hW10 hO10 hE10=>?_
   ·rw[Nat.zero_add,Nat.mul_one]
    refine (ZFy (by rw[List.length_set,ZDl];omega)).trans ?_;rw[List.set_set,<-hps];rfl
   refine zy ?_;exact⟨f+1,(by show n-(f+1)<n-f;omega),rfl,hE10,hf',hO10.up2,rfl,rfl,rfl,rfl,trivial⟩
 have:f=n:=by omega
 subst this;have hO8p:=hO8.p2;rw[show picP (ldT t) f=picL (ldT t) by rw[<-hll];exact ZRr _] at hO8;refine zy ?_
 have hat:∀k:Heap,(∀x∈[ceI bt (ZHk t d (ZAO t.notes) a3 (ZAO t.notes).length (picV bp (f+1))) tabT false,ceI bp (picL (ldT t)) 3 false,ceI bl ((ldT t).map Value.bool) 4 false,sI],x.p k)->RlAt k d.am d.as' d.al t.r->TbAt k bt t d:=fun k hx hrl=>by
  refine⟨a3,(ZAO t.notes).length,bp,?_,?_,hx (ceI bp _ _ _) (by simp),hrl⟩
  ·rw[hn'];exact hx (ceI bt _ _ _) (by simp)
  ·have hsl8:=hx sI (by simp)
   rw[hsI] at hsl8;obtain⟨a4,e4,hS8,-⟩:=ZAE.rowsAt (enc:=rowN) (k:=8) (fun _=>rfl) (show ZAE _ _ _ _ _ _ _ from hsl8) rfl;cases e4;exact hS8.1
 exact ZAB (ZAC rfl ⟨hE8,.inr ⟨c1,bt,rfl,hbt,hat h8 hO8.has (hR.r.ext hE8),Foot.of hO8 hat⟩⟩)
theorem ZNy {t:Tk}{d:Ads}{h:Heap}(hF:t.Fit)(hR:TkAt h t d) :
  Sv Tryz.prog 36 [.agg ⟨ZD9 t d⟩] h (RetP fun v h'=>Ext h h'/\((ZAl t≠0/\v=.tuple ⟨[.pointer none,i64 (ZAl t)]⟩)\/(ZAl t=0/\∃bt,v=.tuple ⟨[.pointer (some ⟨bt,0,none⟩),i64 0]⟩/\h.nx<=bt/\TbAt h' bt t d))) :=
 (ZOb hF hR).ret fun v h' ⟨hE,hC⟩=>⟨hE,hC.imp_right fun ⟨hz,bt,e,hb,hT,_⟩=>⟨hz,bt,e,hb,hT⟩⟩
abbrev xUD0:List Nat:=[0,1,2,3,4,5,6,7,8,9,10,11,12,13,14,15]
theorem ZLg {P:Program}{m:Mem}{h:Heap}{o:Oper}{b c:Bool}{h1:Heap}(e:b=c)(hA:Aop P o m h (.bool b) h1):Aop P o m h (.bool c) h1:=e ▸ hA
theorem ZL6 {t:Tk}{n:Nat}(hn:t.r.frames=n):(ldT t).length=n:=by unfold ldT;rw[ZDa];omega
theorem ZEM {h:Heap}{bt:Nat}{t:Tk}{d:Ads}{n f:Nat}{x:Int}(hT:TbAt h bt t d)(hn:t.r.frames=n)(hn1:n<=200000)(hx:x=f)(hf:f<n) :
  Sv Tryz.prog 43 [.pointer (some ⟨bt,0,none⟩),i64 x] h (RetP fun v h'=>v=.bool (ldg (ldT t) f)/\h'=h):=by
 subst hx;obtain⟨aS,cS,bp,hg,-,hp,-⟩:=hT;have hl:=ZL6 hn;have hn':t.r.frames.toNat=n:=by omega
 rw[hn'] at hg;have hfl:f<(ldT t).length:=by omega
 have c1:ZAi h bp (0+f*1)=some (i64 (picN (ldT t) f:Nat)):=ZAP hp (by rw[ZAq,Nat.zero_add,Nat.mul_one,ZGQ (by omega)]);have c2:ZAi h bp (0+(f+1)*1)=some (i64 (picN (ldT t) (f+1):Nat)):=ZAP hp (by rw[ZAq,Nat.zero_add,Nat.mul_one,ZGQ (by omega)]);have he:decide ((picN (ldT t) f:Int)=(picN (ldT t) (f+1):Int))=ldg (ldT t) f:=(ZTJ hfl).trans (ZN9 hfl);clear hp;refine ZAF Tryz.func43 rfl (by rw[Tryz.ntmps43];rfl) ?_;show Wc Tryz.prog ⟨43,21,none⟩ _ _ _ _ _;refine zy ?_;refine ZAR hmix [0,1,3,7,0,31,63,0,128,384,896,0,2048,8064,16256,32767,65535] xUD0 (some 16) [([],none)] (by kernel_rfl) (by kernel_rfl) ?_
 refine z_m ?_;refine z_q ?_;refine z_f ?_;refine z_l ?_;refine z_m ?_;refine ZAI rfl rfl rfl rfl rfl (fun _=>A_ix (k:=f) Und.h Tsz.h rfl rfl) ?_;refine z_l ?_;refine z_m ?_;refine z_q ?_;refine z_f ?_;refine z_l ?_;refine z_m ?_;refine z_y ?_;refine ZAI rfl rfl rfl rfl rfl (fun _=>ZAN (k:=f+1) Und.h Tsz.h rfl rfl (by omega) (by omega)) ?_;refine z_l ?_;refine ZAI rfl rfl rfl rfl rfl (fun _=>ZLg he (ZBA rfl rfl)) ?_;refine ZAM xUD0 (by kernel_rfl) rfl (ZAA rfl) rfl nb rfl (ZBm rfl rfl (ZAY rfl) ?_);refine ZAc (ZAA rfl) nb' ?_;refine zy ?_;exact ZAB (ZAC rfl ⟨rfl,rfl⟩)
abbrev ZB4 (p:Pc):List Value:=[i64 p.frm,i64 p.til,.bool p.leader]
noncomputable abbrev ZOq (p:Pc):Value:=.agg ⟨ZB4 p⟩
theorem ZGy {h:Heap}{v:Value}:Sv Tryz.prog 46 [v] h (RetP fun r h'=>∃c1,r=.func (.func 76) ⟨[]⟩ ⟨[.pointer (some ⟨c1,0,none⟩)]⟩/\Ext h h'/\Own h h' [ceI c1 v.cells.toList 100 false]):=by
 refine ZA0 fun hw=>?_;refine ZAF Tryz.func46 rfl (by rw[Tryz.ntmps46];rfl) ?_;show Wc Tryz.prog ⟨46,4,none⟩ _ _ _ _ _;refine zy ?_;refine ZAv rfl rfl rfl fun h1 hE1 hW1 hg1 hn1=>?_;have hO:=(Own.nil h h).newCe hw (Nat.le_refl _) hE1 hg1 (Nat.le_refl _);refine zy ?_;exact ZAB (ZAC rfl ⟨_,rfl,hE1,hO⟩)
noncomputable def spT (t:Tk):List Bool:=ZDE (ZAO t.notes) 1 t.r.frames.toNat
noncomputable def pcT (t:Tk):List Pc:=ZBd (ldT t) (spT t) t.r.frames.toNat
theorem TbAt.mark {h:Heap}{bt:Nat}{t:Tk}{d:Ads}{n:Nat}{kind:Int}(hT:TbAt h bt t d)(hok:t.Ok)(hn:t.r.frames=n) :
  Sv Tryz.prog 67 [.pointer (some ⟨bt,0,none⟩),i64 kind] h (RetP fun v h'=>Ext h h'/\∃b,v=.slice (some ⟨b,0,none⟩) n n/\h.nx<=b/\h'.get b=some (.cells ((ZDE (ZAO t.notes) kind n).map Value.bool) 4 false)):=by
 obtain⟨aS,cS,bp,hg,hS,-,-⟩:=hT;have hst:=ZJE hok;have hfr:=hok.r.frames;have hnl:=hok.nlen;have hsl:=ZCu t.notes;exact ZJi hg hS hn (by omega) (by omega) (fun x hx=>⟨(hst x hx).1.frm,by have:=(hst x hx).2;omega⟩) (by omega)
theorem TbAt.frames {h:Heap}{bt:Nat}{t:Tk}{d:Ads}(hT:TbAt h bt t d):∃aS cS pic,h.get bt=some (.cells (ZHk t d (ZAO t.notes) aS cS pic) tabT false):=by
 obtain⟨aS,cS,bp,hg,-⟩:=hT;exact⟨_,_,_,hg⟩
set_option maxHeartbeats 4000000 in
theorem ZGD {σ:Type}{X:σ->List It}{h0:Heap}{c1 bt:Nat}{t:Tk}{d:Ads}(hw0:WF h0)(hT:∀{st R h'},Own h0 h' (X st++R)->Ext h0 h'->TbAt h' bt t d)(hok:t.Ok)(hX:∀st,ceI c1 [.pointer (some ⟨bt,0,none⟩)] 100 false∈X st) :
  ZNi Tryz.prog 76 [.pointer (some ⟨c1,0,none⟩)] h0 X (pcT t) ZOq:=by
 intro l hL J hJ0 hJd hJt hy;obtain⟨n,hn⟩:∃n:Nat,t.r.frames=n:=⟨t.r.frames.toNat,by have:=hok.r.frames;omega⟩;have hn':t.r.frames.toNat=n:=by omega
 have hfr:=hok.r.frames;have hpc:pcT t=ZBd (ldT t) (spT t) n:=by unfold pcT;rw[hn']
 have hspl:(spT t).length=n:=by unfold spT;rw[ZDa];omega
 have hgot:∀{I pre h'},J I pre h'->Ext h0 h'/\h'.get c1=some (.cells [.pointer (some ⟨bt,0,none⟩)] 100 false)/\(∀x∈I,x.p h')/\TbAt h' bt t d:=fun {I pre h'} hJ=>by
  obtain⟨hE,st,R,hO⟩:=hJd I pre h' hJ;exact⟨hE,hO.has _ (List.mem_append_left _ (hX st)),fun x hx=>hO.has _ (List.mem_append_right _ (List.mem_append_left _ hx)),hT hO hE⟩
 obtain⟨hE0,hg1,-,hT0⟩:=hgot hJ0;refine ZA0 fun hwL=>?_;refine ZAF Tryz.func76 rfl (by rw[Tryz.ntmps76];rfl) ?_;show Wc Tryz.prog ⟨76,51,none⟩ _ _ _ _ _;refine zy ?_;refine zR (hT0.mark (kind:=1) hok hn) ?_;rintro _ h1 ⟨hE1,bs,rfl,hbs,hgs⟩;have hJ1:J [ceI bs ((spT t).map Value.bool) 4 false] [] h1:=hJt [] _ [] hL h1 hJ0 fun R hO hE=>⟨hO.newCe hwL hE.2.1 hE1 (by unfold spT;rw[hn'];exact hgs) hbs,hE.trans hE1⟩;obtain⟨hE01,hg11,-,hT1⟩:=hgot hJ1;clear hJ0 hE0 hg1 hE1 hgs hbs hwL;refine zy ?_;refine zU (ZEM (f:=0) hT1 hn (by omega) rfl (by omega)) ?_;refine ZA4 fun hw1=>?_;refine zy ?_;refine ZAH rfl rfl Zr.h Tsz.h rfl (fun _=>rfl) rfl rfl rfl fun h2 hE2 hW2 hg2 hn2=>?_
 have hJ2:J [ceI h1.nx (ZB4 (pcAt (ldT t) (spT t) 0).2) 120 false,ceI bs ((spT t).map Value.bool) 4 false] (pcAt (ldT t) (spT t) 0).1 h2:=hJt _ _ _ h1 h2 hJ1 fun R hO hE=>⟨hO.newCe hw1 hE.2.1 hE2 hg2 (Nat.le_refl _),hE.trans hE2⟩;clear hJ1 hE01 hg11 hE2 hg2 hw1;generalize h1.nx=b4 at *;refine zy ?_;refine ZAS (fun (k:Nat) m ds h'=>ds=[]/\k<n/\J [ceI b4 (ZB4 (pcAt (ldT t) (spT t) k).2) 120 false,ceI bs ((spT t).map Value.bool) 4 false] (pcAt (ldT t) (spT t) k).1 h'/\AllK m [(0,.func (.yield l) ⟨[]⟩ ⟨[]⟩),(1,.pointer (some ⟨c1,0,none⟩)),(3,.slice (some ⟨bs,0,none⟩) n n),(4,.pointer (some ⟨b4,0,none⟩)),(5,i64 ((k:Nat)+1))]) (fun k=>n-k) 0 ?_ ?_
 ·exact⟨rfl,by omega,hJ2,rfl,rfl,rfl,rfl,rfl,trivial⟩
 clear hJ2 hW2;rintro k m ds h3 ⟨rfl,hk,hJ3,hall⟩;refine Wc.le (ZBg fun hW3=>?_) (Le.kn hall);clear hall;obtain⟨hE3,hg3,hI3,hT3⟩:=hgot hJ3;have g4:h3.get b4=some (.cells (ZB4 (pcAt (ldT t) (spT t) k).2) 120 false):=hI3 (ceI b4 _ _ _) (by simp);have gs:h3.get bs=some (.cells ((spT t).map Value.bool) 4 false):=hI3 (ceI bs _ _ _) (by simp);obtain⟨aS,cS,pic,hgt⟩:=hT3.frames;refine zy ?_
 by_cases hlt:((k:Int)+1<t.r.frames)
 rotate_left
 ·refine zE (A_ff hlt (ZAx rfl rfl)) ?_
  have hkn:n-1=k:=by omega
  refine zy ?_;refine ZGW rfl rfl rfl rfl rfl rfl rfl (hy _ _ (pcAt (ldT t) (spT t) k).2 [] h3 (by rw[hpc];unfold ZBd;rw[hkn]) hJ3) ?_;rintro _ h4 ⟨rfl,hJ4⟩;refine zy ?_;have e:pcT t=(pcAt (ldT t) (spT t) k).1++[(pcAt (ldT t) (spT t) k).2]:=by rw[hpc];unfold ZBd;rw[hkn]
  rw[<-e] at hJ4;exact ZC1 rfl ⟨_,hJ4⟩
 refine zE (A_tt hlt (ZAx rfl rfl)) ?_;have hk1:k+1<n:=by omega
 refine zy ?_;refine zU (ZEM (f:=k+1) (x:=(k:Int)+1) hT3 hn (by omega) (by omega) hk1) ?_;have hst:pcAt (ldT t) (spT t) (k+1)=ZB7 (ldT t) (spT t) (pcAt (ldT t) (spT t) k) (k+1):=rfl;have hkl:k+1<(spT t).length:=by omega
 have hcs:ZAi h3 bs (0+(k+1)*1)=some (.bool (ldg (spT t) (k+1))):=ZAP gs (by rw[ZAq,Nat.zero_add,Nat.mul_one,List.getElem?_map,List.getElem?_eq_getElem hkl,ZN9 hkl];rfl);have hsp:=ZNt (ld:=ldT t) (sp:=spT t) hk1;refine zy ?_
 by_cases hne:ldg (ldT t) (k+1)=(pcAt (ldT t) (spT t) k).2.leader
 ·refine zE (ZLg (decide_eq_false (fun q=>q hne)) (ZR8 Und.h rfl rfl)) ?_
  have hnw0:ZHj (ldT t) (spT t) (pcAt (ldT t) (spT t) k).2 (k+1)=(!ldg (ldT t) (k+1) && ldg (spT t) (k+1)):=by unfold ZHj;rw[hne];simp
  cases hil:ldg (ldT t) (k+1) with
  | true =>
   rw[hil] at hnw0;have hnw:ZHj (ldT t) (spT t) (pcAt (ldT t) (spT t) k).2 (k+1)=false:=hnw0;have hst2:pcAt (ldT t) (spT t) (k+1)=((pcAt (ldT t) (spT t) k).1,⟨(pcAt (ldT t) (spT t) k).2.frm,((k+1:Nat):Int),(pcAt (ldT t) (spT t) k).2.leader⟩):=by rw[hst];unfold ZB7;rw[if_neg (by rw[hnw];decide)]
   refine zy ?_;refine ZAe (r:=[i64 (pcAt (ldT t) (spT t) k).2.frm,i64 ((k:Int)+1),.bool (pcAt (ldT t) (spT t) k).2.leader]) rfl Tsz.h rfl rfl g4 rfl rfl rfl fun h6 hU6=>?_;have hJ6:=hJt _ (ceI b4 [i64 (pcAt (ldT t) (spT t) k).2.frm,i64 ((k:Int)+1),.bool (pcAt (ldT t) (spT t) k).2.leader] 120 false :: [ceI bs ((spT t).map Value.bool) 4 false]) _ h3 h6 hJ3 fun R hO hE=>hO.putCe hW3 hE hw0 hU6;refine zy ?_;refine⟨k+1,(by show n-(k+1)<n-k;omega),rfl,hk1,?_,rfl,rfl,rfl,rfl,rfl,trivial⟩;rw[hst2];exact hJ6
  | false =>
   rw[hil] at hnw0;refine zy ?_;refine zE (ZAN (k:=k+1) Und.h Tsz.h rfl rfl (by omega) (by omega)) ?_
   cases hil2:ldg (spT t) (k+1) with
   | true =>
    rw[hil2] at hnw0 hcs;have hnw:ZHj (ldT t) (spT t) (pcAt (ldT t) (spT t) k).2 (k+1)=true:=hnw0;obtain⟨post,hpost⟩:=hsp hnw;have hst2:pcAt (ldT t) (spT t) (k+1)=((pcAt (ldT t) (spT t) k).1++[(pcAt (ldT t) (spT t) k).2],⟨((k+1:Nat):Int),((k+1:Nat):Int),ldg (ldT t) (k+1)⟩):=by rw[hst];unfold ZB7;rw[if_pos hnw]
    refine zy ?_;refine ZGW rfl rfl rfl rfl rfl rfl rfl (hy _ _ (pcAt (ldT t) (spT t) k).2 post h3 (by rw[hpc];exact hpost) hJ3) ?_;rintro _ h4 ⟨rfl,hJ4⟩;obtain⟨hE4,hg41,hI4,-⟩:=hgot hJ4;have g44:h4.get b4=some (.cells (ZB4 (pcAt (ldT t) (spT t) k).2) 120 false):=hI4 (ceI b4 _ _ _) (by simp);refine ZA4 fun hw4=>?_;refine zy ?_;refine ZAe (r:=[i64 ((k:Int)+1),i64 0,.bool false]) rfl Tsz.h rfl rfl g44 rfl rfl rfl fun h5 hU5=>?_;have hJ5:=hJt _ (ceI b4 [i64 ((k:Int)+1),i64 0,.bool false] 120 false :: [ceI bs ((spT t).map Value.bool) 4 false]) _ h4 h5 hJ4 fun R hO hE=>hO.putCe hw4 hE hw0 hU5;refine ZA4 fun hw5=>?_
    refine zy ?_;refine ZAe (r:=[i64 ((k:Int)+1),i64 ((k:Int)+1),.bool false]) rfl Tsz.h rfl rfl hU5.at' rfl rfl rfl fun h6 hU6=>?_;have hJ6:=hJt _ (ceI b4 [i64 ((k:Int)+1),i64 ((k:Int)+1),.bool false] 120 false :: [ceI bs ((spT t).map Value.bool) 4 false]) _ h5 h6 hJ5 fun R hO hE=>hO.putCe hw5 hE hw0 hU6;refine zy ?_;refine⟨k+1,(by show n-(k+1)<n-k;omega),rfl,hk1,?_,rfl,rfl,rfl,rfl,rfl,trivial⟩;rw[hst2,hil];exact hJ6
   | false =>
    rw[hil2] at hnw0 hcs;have hnw:ZHj (ldT t) (spT t) (pcAt (ldT t) (spT t) k).2 (k+1)=false:=hnw0;have hst2:pcAt (ldT t) (spT t) (k+1)=((pcAt (ldT t) (spT t) k).1,⟨(pcAt (ldT t) (spT t) k).2.frm,((k+1:Nat):Int),(pcAt (ldT t) (spT t) k).2.leader⟩):=by rw[hst];unfold ZB7;rw[if_neg (by rw[hnw];decide)]
    refine zy ?_;refine ZAe (r:=[i64 (pcAt (ldT t) (spT t) k).2.frm,i64 ((k:Int)+1),.bool (pcAt (ldT t) (spT t) k).2.leader]) rfl Tsz.h rfl rfl g4 rfl rfl rfl fun h6 hU6=>?_;have hJ6:=hJt _ (ceI b4 [i64 (pcAt (ldT t) (spT t) k).2.frm,i64 ((k:Int)+1),.bool (pcAt (ldT t) (spT t) k).2.leader] 120 false :: [ceI bs ((spT t).map Value.bool) 4 false]) _ h3 h6 hJ3 fun R hO hE=>hO.putCe hW3 hE hw0 hU6;refine zy ?_;refine⟨k+1,(by show n-(k+1)<n-k;omega),rfl,hk1,?_,rfl,rfl,rfl,rfl,rfl,trivial⟩;rw[hst2];exact hJ6
 ·refine zE (ZLg (decide_eq_true hne) (ZR8 Und.h rfl rfl)) ?_
  have hnw:ZHj (ldT t) (spT t) (pcAt (ldT t) (spT t) k).2 (k+1)=true:=by unfold ZHj;simp[hne]
  obtain⟨post,hpost⟩:=hsp hnw;have hst2:pcAt (ldT t) (spT t) (k+1)=((pcAt (ldT t) (spT t) k).1++[(pcAt (ldT t) (spT t) k).2],⟨((k+1:Nat):Int),((k+1:Nat):Int),ldg (ldT t) (k+1)⟩):=by rw[hst];unfold ZB7;rw[if_pos hnw]
  refine zy ?_;refine ZGW rfl rfl rfl rfl rfl rfl rfl (hy _ _ (pcAt (ldT t) (spT t) k).2 post h3 (by rw[hpc];exact hpost) hJ3) ?_;rintro _ h4 ⟨rfl,hJ4⟩;obtain⟨hE4,hg41,hI4,-⟩:=hgot hJ4;have g44:h4.get b4=some (.cells (ZB4 (pcAt (ldT t) (spT t) k).2) 120 false):=hI4 (ceI b4 _ _ _) (by simp);refine ZA4 fun hw4=>?_;refine zy ?_;refine ZAe (r:=[i64 ((k:Int)+1),i64 0,.bool (ldg (ldT t) (k+1))]) rfl Tsz.h rfl rfl g44 rfl rfl rfl fun h5 hU5=>?_;have hJ5:=hJt _ (ceI b4 [i64 ((k:Int)+1),i64 0,.bool (ldg (ldT t) (k+1))] 120 false :: [ceI bs ((spT t).map Value.bool) 4 false]) _ h4 h5 hJ4 fun R hO hE=>hO.putCe hw4 hE hw0 hU5
  refine ZA4 fun hw5=>?_;refine zy ?_;refine ZAe (r:=[i64 ((k:Int)+1),i64 ((k:Int)+1),.bool (ldg (ldT t) (k+1))]) rfl Tsz.h rfl rfl hU5.at' rfl rfl rfl fun h6 hU6=>?_;have hJ6:=hJt _ (ceI b4 [i64 ((k:Int)+1),i64 ((k:Int)+1),.bool (ldg (ldT t) (k+1))] 120 false :: [ceI bs ((spT t).map Value.bool) 4 false]) _ h5 h6 hJ5 fun R hO hE=>hO.putCe hw5 hE hw0 hU6;refine zy ?_;refine⟨k+1,(by show n-(k+1)<n-k;omega),rfl,hk1,?_,rfl,rfl,rfl,rfl,rfl,trivial⟩;rw[hst2];exact hJ6
theorem ZHi {σ:Type}{X:σ->List It}{h0:Heap}{c1 bt:Nat}{t:Tk}{d:Ads}(hw0:WF h0)(hT:TbAt h0 bt t d)(hok:t.Ok)(hX:∀st,ceI c1 [.pointer (some ⟨bt,0,none⟩)] 100 false∈X st) :
  ZNi Tryz.prog 76 [.pointer (some ⟨c1,0,none⟩)] h0 X (pcT t) ZOq :=
 ZGD hw0 (fun _ hE=>hT.ext hE) hok hX
theorem ZTq (x0 x1 x2:Value):Instr.fill (fun i=>some (i*3,3)) (rep 1 (Value.cells (.agg ⟨[i64 0,i64 0,.bool false]⟩)).toList).toArray [(0,.agg ⟨[x0,x1,x2]⟩)]=some ⟨[x0,x1,x2]⟩:=by kernel_rfl
theorem ZI9 {t:Tk}(hok:t.Ok):(pcT t).length<=200000:=by
 have:=hok.r.frames;have h1:=ZNl (ldT t) (spT t) (n:=t.r.frames.toNat) (by omega);unfold pcT;omega
set_option maxHeartbeats 2000000 in
theorem ZJV {h0 h:Heap}{c1 bt:Nat}{t:Tk}{d:Ads}(hw0:WF h0)(hT:TbAt h0 bt t d)(hok:t.Ok)(hE:Ext h0 h)(hO:Own h0 h [ceI c1 [.pointer (some ⟨bt,0,none⟩)] 100 false]) :
  Sv Tryz.prog 75 [.slice none 0 0,.func (.func 76) ⟨[]⟩ ⟨[.pointer (some ⟨c1,0,none⟩)]⟩] h (RetP fun v h'=>Ext h0 h'/\ZAE h0 h' v 120 3 ((pcT t).flatMap ZB4) (pcT t).length):=by
 refine ZA0 fun hw=>?_;have hpl:=ZI9 hok;refine ZAF Tryz.func75 rfl (by rw[Tryz.ntmps75];rfl) ?_;show Wc Tryz.prog ⟨75,13,none⟩ _ _ _ _ _;refine zy ?_;refine ZAv rfl rfl rfl fun h1 hE1 hW1 hg1 hn1=>?_;have hO1:=hO.newCe hw hE.2.1 hE1 hg1 (Nat.le_refl _);replace hE1:=hE.trans hE1;have hO2:=hO1.nilSl 120 3;generalize h.nx=b2 at *;refine zy ?_;refine ZGm (q:=5) (X:=fun st:List Pc×Value=>[slI h0 st.2 120 3 (st.1.flatMap ZB4) st.1.length,ceI b2 [st.2] 57 false,ceI c1 [.pointer (some ⟨bt,0,none⟩)] 100 false]) (ok:=fun pre st=>st.1=pre) (L:=pcT t) (enc:=ZOq) (cs:=ZB4) (el:=120) (op:=false) (s0:=([],.slice none 0 0)) rfl rfl Bod.h rfl hw0 hE1 hO2 rfl (ZHi hw0 hT hok fun st=>by simp) (fun l x h'=>?_) (fun l bn pre x post st h6 R hsp hok' hO6 hE6=>?_) (fun st h6 hok6 hO6 hE6=>?_)
 ·refine ZEI ?_
  refine ZAH rfl rfl Zr.h Tsz.h rfl (fun _=>rfl) rfl rfl rfl fun h8 hE8 hW8 hg8 hn8=>?_;exact ZKP ⟨rfl,rfl,rfl,hE8,hg8⟩
 ·obtain⟨C,v⟩:=st
  simp only at hok';subst hok';have hlen:C.length<200001:=by
   have h1:(pcT t).length=C.length+(post.length+1):=by rw[hsp,List.length_append,List.length_cons]
   omega
  have hgn:h6.get bn=some (.cells (ZB4 x) 120 false):=hO6.p1;have hg2:h6.get b2=some (.cells [v] 57 false):=hO6.p3;have hO6':Own h0 h6 (slI h0 v 120 3 (C.flatMap ZB4) C.length::ceI b2 [v] 57 false::ceI c1 [.pointer (some ⟨bt,0,none⟩)] 100 false::R):=hO6.tail;refine zy ?_;refine ZDi (cs:=ZB4 x) rfl rfl Und.h Tsz.h Zr.h rfl rfl rfl rfl (ZTq _ _ _) fun h7 hE7 hW7 hg7 hn7=>?_;have k2:=hE7.get hg2;refine zy ?_;refine ZBH (k:=1) (l:=ZB4 x) hw0 (hE6.trans hE7) rfl rfl rfl rfl rfl Und.h inferInstance rfl rfl (hO6'.ext hE7) (ZAm Und.h (by intro k;simp) (ZAL hg7 rfl)) rfl rfl (by omega) (by omega) fun v8 h8 hW8 hO8 hE8=>?_
  have hsh:∃a n c,v8=.slice a n c:=by
   rcases (show ZAE _ _ _ _ _ _ _ from hO8.p1) with ⟨e,_⟩|⟨b',sp,op,e,_⟩ <;> exact⟨_,_,_,e⟩
  obtain⟨a8,n8,c8,rfl⟩:=hsh;refine zy ?_;refine ZAU (r:=[.slice a8 n8 c8]) hw0 hE8 rfl Tsz.h rfl rfl hO8.up2 rfl rfl rfl fun h9 hW9 hO9 hE9=>?_;refine zy ?_;refine⟨rfl,(C++[x],.slice a8 n8 c8),rfl,?_,hE9⟩;have hlen1:(C++[x]).flatMap ZB4=C.flatMap ZB4++ZB4 x:=by rw[List.flatMap_append,List.flatMap_singleton]
  show Own h0 h9 (slI h0 (.slice a8 n8 c8) _ 3 ((C++[x]).flatMap ZB4) (C++[x]).length::ceI b2 [.slice a8 n8 c8] _ false::ceI c1 _ _ false::R)
  rw[hlen1,List.length_append];exact hO9.up2
 obtain⟨C,v⟩:=st;simp only at hok6;subst hok6;have hg2:h6.get b2=some (.cells [v] 57 false):=hO6.p3;have hO6':Own h0 h6 ([h1.nx].map (fun r=>loI r .defd)++[slI h0 v 120 3 ((pcT t).flatMap ZB4) (pcT t).length]):=hO6.sub (List.sublist_append_left [_,_] [_,_]);have hcl:ZDA h0 h6 [h1.nx]:=hO6'.colls;refine zy ?_;exact ZAB (ZGs hcl.nd hcl.defd rfl ⟨hcl.ext0 hE6 hw0,hO6'.del.p1⟩)
theorem ZNK {h0 h:Heap}{c1 bt:Nat}{t:Tk}{d:Ads}(hw0:WF h0)(hT:TbAt h0 bt t d)(hok:t.Ok)(hE:Ext h0 h)(hO:Own h0 h [ceI c1 [.pointer (some ⟨bt,0,none⟩)] 100 false]) :
  Sv Tryz.prog 45 [.func (.func 76) ⟨[]⟩ ⟨[.pointer (some ⟨c1,0,none⟩)]⟩] h (RetP fun v h'=>Ext h0 h'/\ZAE h0 h' v 120 3 ((pcT t).flatMap ZB4) (pcT t).length):=by
 refine ZAF Tryz.func45 rfl (by rw[Tryz.ntmps45];rfl) ?_;show Wc Tryz.prog ⟨45,5,none⟩ _ _ _ _ _;refine zy ?_;refine zR (ZJV hw0 hT hok hE hO) ?_;rintro v h1 ⟨hE1,hF1⟩;refine zy ?_;exact ZAB (ZAC rfl ⟨hE1,hF1⟩)
theorem ZIW {t:Tk}{d:Ads}{h:Heap}(hF:t.Fit)(hR:TkAt h t d) :
  Sv Tryz.prog 15 [.agg ⟨ZD9 t d⟩] h (RetP fun v h'=>Ext h h'/\∃a c,v=.tuple ⟨[.slice a (if ZAl t=0 then pcT t else []).length c,i64 (ZAl t)]⟩/\TabA ZB4 3 h' a (if ZAl t=0 then pcT t else [])):=by
 refine ZA0 fun hw=>?_;refine ZAF Tryz.func15 rfl (by rw[Tryz.ntmps15];rfl) ?_;show Wc Tryz.prog ⟨15,17,none⟩ _ _ _ _ _;refine zy ?_;refine ZAv rfl rfl rfl fun h1 hE1 hW1 hg1 hn1=>?_;refine zy ?_;refine zR (ZNy hF (hR.ext hE1)) ?_;rintro _ h2 ⟨hE2,⟨hne,rfl⟩|⟨hz,bt,rfl,hbt,hT⟩⟩
 ·refine zy ?_
  refine zD (A_tt hne (ZA3 rfl rfl)) ?_;refine ZAB (ZAC rfl ⟨hE1.trans hE2,none,0,by rw[if_neg hne];rfl,?_⟩);rw[if_neg hne];exact fun i hi=>absurd hi (Nat.not_lt_zero _)
 have hok:=ZCQ hz;refine zy ?_;refine zE (A_ff (fun q=>q rfl) (ZA3 rfl rfl)) ?_;refine ZA4 fun hw2=>?_;refine zy ?_;refine ZA5 rfl rfl rfl rfl rfl Bod.h rfl rfl ZGy ?_;rintro _ h3 ⟨c1,rfl,hE3,hO3⟩;refine zy ?_;refine zR (ZNK hw2 hT hok hE3 hO3) ?_;rintro v h4 ⟨hE4,hF4⟩;obtain⟨a,rfl,hS,-⟩:=ZAE.rowsAt (enc:=ZB4) (k:=3) (fun _=>rfl) hF4 rfl;refine zy ?_;refine ZAB (ZAC rfl ⟨(hE1.trans hE2).trans hE4,a,(pcT t).length,by rw[if_pos hz,hz];rfl,?_⟩);rw[if_pos hz];exact hS.1
abbrev xUF5:List Nat:=[0,1,2,3,4,5,6,7,8,9,10,11,12,13,14,15,16,17,18]
abbrev ZEw (a b:Int):Value:=.agg ⟨[i64 a,i64 b]⟩
theorem ZGw (a b c d:Int)(h:Heap):Sv Tryz.prog 61 [ZEw a b,ZEw c d] h (RetP fun v h'=>v=.tuple ⟨[ZEw (max a c) (min b d),.bool (decide (max a c<=min b d))]⟩/\Ext h h'):=by
 refine ZA0 fun hw=>?_;refine ZAF Tryz.func61 rfl (by rw[Tryz.ntmps61];rfl) ?_;show Wc Tryz.prog ⟨61,24,none⟩ _ _ _ _ _;refine zy ?_;refine ZAv rfl rfl rfl fun h1 hE1 hW1 hg1 hn1=>?_;refine zy ?_;refine ZAv rfl rfl rfl fun h2 hE2 hW2 hg2 hn2=>?_;refine zy ?_;refine ZAa rfl rfl Zr.h fun h3 hE3 hW3 hg3 hn3=>?_;have k1:=hE3.get (hE2.get hg1);have k2:=hE3.get hg2;refine zy ?_;refine zD (ZUD rfl rfl) ?_;refine zD (ZSa rfl rfl) ?_;refine ZAH rfl rfl Zr.h Tsz.h rfl (fun _=>rfl) rfl rfl rfl fun h4 hE4 hW4 hg4 hn4=>?_;have k3:=hE4.get hg3;refine zy ?_;refine ZAR hmix [0,0,2,0,8,30,1,127] [0,1,2,3,4,5] (some 6) [([],(some 7)),([],none)] (by kernel_rfl) (by kernel_rfl) ?_
 refine z_r ?_;refine z_f ?_;refine z_l ?_;refine z_f ?_;refine z_l ?_;refine ZAI rfl rfl rfl rfl rfl (fun _=>ZO9 rfl rfl) ?_;refine ZAM [0] (by kernel_rfl) rfl (ZAA rfl) rfl nb rfl (ZCW rfl rfl Tsz.h rfl rfl k3 rfl rfl rfl (fun h5 hU5=>?_));have k4:=hU5.get (by omega) hg4;refine ZAM [0,1,2,3,4,5,6] (by kernel_rfl) rfl (by refine ZAQ (i:=5) rfl rfl rfl rfl rfl (fun _=>ZO9 rfl rfl) rfl ?_;refine t_l 4 ?_;refine t_f 3 ?_;refine t_l 2 ?_;refine t_f 1 ?_;exact ZAA rfl) rfl nb rfl (ZBm rfl rfl (ZAY rfl) ?_);refine ZAc (ZAA rfl) nb' ?_;have hE5:Ext h h5:=hU5.ext (((hE1.trans hE2).trans hE3).trans hE4) hw (by omega)
 have k5:=hU5.at';refine zy ?_;exact ZAB (ZAC (ZAW rfl (ZAt RowC.h (ZAL k5 rfl)) (ZCU rfl rfl)) ⟨rfl,hE5⟩)
theorem ZTb {h:Heap}{b o n k j:Nat}{vs l:List Value}(hr:ZBC h b o n=some vs)(hl:l.length=j)(hj:0<j)(hc:∀i (hi:i<l.length),nth vs (k+i)=some l[i]):ZBC h b (o+k) j=some l:=by
 subst hl;refine ZEN hj fun i hi=>?_;rw[Nat.add_assoc];exact ZAr hr (hc i hi)
theorem ZQl {h:Heap}{b o:Nat}{x:Nt}(hr:ZBC h b o 8=some (rowN x)):ZBC h b (o+6) 2=some [i64 x.lo,i64 x.hi] :=
 ZTb hr rfl (by decide) fun i hi=>by
  match i,hi with
  | 0,_=>rfl
  | 1,_=>rfl
abbrev ZBp (x:Sk):List Value:=[str x.who,i64 x.number,str x.first,i64 x.fnumber]
theorem ZUG (x0 x1 x2 x3:Value):Instr.fill (fun i=>some (i*4,4)) (rep 1 (Value.cells (.agg ⟨[str [],i64 0,str [],i64 0]⟩)).toList).toArray [(0,.agg ⟨[x0,x1,x2,x3]⟩)]=some ⟨[x0,x1,x2,x3]⟩:=by kernel_rfl
def ByAt (h:Heap)(v:Value):Option Nt->Prop
 | none=>v=.pointer none
 | some y=>∃b o,v=.pointer (some ⟨b,o,none⟩)/\ZBC h b o 8=some (rowN y)
theorem ZIu {t:Tk}(h:t.Ok):∀x∈ZAO t.notes,Bd x.lo x.hi:=fun x hx=>by
 have:=(ZJE h x hx).1;have h1:=this.lo;have h2:=this.hi;unfold Bd;omega
set_option maxHeartbeats 8000000 in
theorem ZSZ {h:Heap}{bt:Nat}{t:Tk}{d:Ads}{frame:Int}(hT:TbAt h bt t d)(hok:t.Ok) :
  Sv Tryz.prog 93 [.pointer (some ⟨bt,0,none⟩),i64 frame] h (RetP fun v h'=>Ext h h'/\∃s,v=.tuple ⟨[ZEw (ZDS (ZAO t.notes) frame).1.1 (ZDS (ZAO t.notes) frame).1.2,s]⟩/\ZAE h h' s 114 4 ((ZDS (ZAO t.notes) frame).2.flatMap ZBp) (ZDS (ZAO t.notes) frame).2.length):=by
 refine ZA0 fun hw=>?_;obtain⟨aS,cS,bp,hgt,hS,-,-⟩:=hT;have hnl:=hok.nlen;have hsl:=ZCu t.notes;generalize ZAO t.notes=S at *;generalize picV bp (t.r.frames.toNat+1)=pic at *;refine ZAF Tryz.func93 rfl (by rw[Tryz.ntmps93];rfl) ?_;show Wc Tryz.prog ⟨93,82,none⟩ _ _ _ _ _;refine zy ?_;refine ZAa rfl rfl Zr.h fun h1 hE1 hW1 hg1 hn1=>?_;have hO1:=(Own.nil h h).newCe hw (Nat.le_refl _) hE1 hg1 (Nat.le_refl _);have hO2:=(hO1.nilSl 114 4).up2;have k1:=hE1.get hgt;generalize h.nx=b4 at *;refine zy ?_;refine ZAS (fun (st:Nat×Value×Value) m ds h'=>ds=[]/\Ext h h'/\st.1<=S.length/\Own h h' [ceI b4 [i64 (ZAf (S.take st.1) frame).lo,i64 (ZAf (S.take st.1) frame).hi] 23 false,slI h st.2.1 114 4 ((ZAf (S.take st.1) frame).l.flatMap ZBp) (ZAf (S.take st.1) frame).l.length]/\ByAt h st.2.2 (ZAf (S.take st.1) frame).by'/\AllK m [(0,.pointer (some ⟨bt,0,none⟩)),(1,i64 frame),(4,.pointer (some ⟨b4,0,none⟩)),(5,st.2.1),(6,st.2.2),(15,i64 S.length),(16,i64 (st.1:Nat))]) (fun st=>S.length-st.1) (0,.slice none 0 0,.pointer none) ?_ ?_
 ·exact⟨rfl,hE1,Nat.zero_le _,hO2,rfl,rfl,rfl,rfl,rfl,rfl,rfl,rfl,trivial⟩
 clear hO1 hO2 hE1 hW1 k1 hg1;rintro⟨k,v,pv⟩ m ds h3 ⟨rfl,hE3,hk,hO3,hB,hall⟩;refine Wc.le (ZBg fun hW3=>?_) (Le.kn hall);clear hall;simp only at hk hO3 hB ⊢;refine zy ?_;refine zC (ZAx rfl rfl) (fun hlt=>?_) (fun hlt=>?_);rotate_left
 ·have:k=S.length:=by omega
  subst this;rw[List.take_length] at hO3 hB;have hg4:h3.get b4=_:=hO3.p1;have hF:ZAE h h3 v _ 4 _ _:=hO3.p2;have hsh:∃a n c,v=.slice a n c:=by
   rcases (show ZAE _ _ _ _ _ _ _ from hF) with ⟨e,_⟩|⟨b',sp,op,e,_⟩ <;> exact⟨_,_,_,e⟩
  obtain⟨a9,n9,c9,rfl⟩:=hsh;have hg4':h3.get b4=some (.cells [i64 (ZAf S frame).lo,i64 (ZAf S frame).hi] 23 false):=hg4
  cases hby:(ZAf S frame).by' with
  | none =>
   rw[hby] at hB;obtain rfl:pv=.pointer none:=hB;refine zy ?_;refine zD (ZGd Und.h rfl rfl) ?_;refine ZAU (r:=[i64 (ZAf S frame).lo,i64 400000]) hw hE3 rfl Tsz.h rfl rfl hO3 rfl rfl rfl fun h4 hW4 hO4 hE4=>?_;have hg5:=hO4.p1;refine zy ?_;refine ZAU (r:=[i64 (ZAf S frame).lo,i64 400000]) hw hE4 rfl Tsz.h rfl rfl hO4 rfl rfl rfl fun h5 hW5 hO5 hE5=>?_;have hg6:=hO5.p1;refine zy ?_;have e:ZDS S frame=(((ZAf S frame).lo,400000),(ZAf S frame).l):=by unfold ZDS;rw[hby]
   rw[e];exact ZAB (ZAC (ZAW rfl (ZAt RowC.h (ZAL hg6 rfl)) (ZCU rfl rfl)) ⟨hE5,_,rfl,hO5.p2⟩)
  | some y =>
   rw[hby] at hB;obtain⟨b,o,rfl,-⟩:=hB;refine zy ?_;refine zD (ZI2 rfl rfl rfl (by intro n e;cases e)) ?_;refine ZAU (r:=[i64 (ZAf S frame).lo,i64 (ZAf S frame).hi]) hw hE3 rfl Tsz.h rfl rfl hO3 rfl rfl rfl fun h5 hW5 hO5 hE5=>?_;have hg6:=hO5.p1;refine zy ?_;have e:ZDS S frame=(((ZAf S frame).lo,(ZAf S frame).hi),(ZAf S frame).l):=by unfold ZDS;rw[hby]
   rw[e];exact ZAB (ZAC (ZAW rfl (ZAt RowC.h (ZAL hg6 rfl)) (ZCU rfl rfl)) ⟨hE5,_,rfl,hO5.p2⟩)
 have hk':k<S.length:=by omega
 obtain⟨b,o,oa,eaS,row,hrow,hxr⟩:=hS k hk';have htk:S.take (k+1)=S.take k++[S[k]]:=by rw[List.take_add_one,List.getElem?_eq_getElem hk'];rfl
 have hst0:=ZNW (S.take k) S[k] frame;rw[<-htk] at hst0;generalize S[k]=x at hxr htk hst0;have hx':row=rowN x:=hxr;subst hx';have hrow1:=hE3.row hrow;have hsp1:=ZQl hrow1;have kt:=hE3.get hgt;have hlen:=ZHB (S.take k) frame;rw[List.length_take] at hlen;rw[eaS] at kt;have hc3:ZAi h3 b (o+k*8+3)=some (i64 x.kind):=ZAr (k:=3) hrow1 rfl;have hc4:ZAi h3 b (o+k*8+4)=some (i64 x.frm):=ZAr (k:=4) hrow1 rfl;have hc0:ZAi h3 b (o+k*8+0)=some (str x.who):=ZAr (k:=0) hrow1 rfl;have hc1:ZAi h3 b (o+k*8+1)=some (i64 x.number):=ZAr (k:=1) hrow1 rfl;refine zy ?_;refine zD (A_ix Und.h Tsz.h rfl rfl) ?_
 by_cases hk1:x.kind=1
 rotate_left
 ·refine zE (A_tt hk1 (ZA3 rfl rfl)) ?_
  have hst:ZAf (S.take (k+1)) frame=ZAf (S.take k) frame:=by rw[hst0];unfold ZDd;rw[if_neg (fun q=>hk1 q.1)]
  refine zy ?_
  exact⟨(k+1,v,pv),(by show S.length-(k+1)<S.length-k;omega),rfl,hE3,hk',(by
   show Own h h3 [ceI b4 [i64 (ZAf (S.take (k+1)) frame).lo,i64 (ZAf (S.take (k+1)) frame).hi] _ false,slI h v _ 4 ((ZAf (S.take (k+1)) frame).l.flatMap ZBp) (ZAf (S.take (k+1)) frame).l.length]
   rw[hst];exact hO3),(by show ByAt h pv (ZAf (S.take (k+1)) frame).by';rw[hst];exact hB),rfl,rfl,rfl,rfl,rfl,rfl,rfl,trivial⟩
 refine zD (A_ff (fun q=>q hk1) (ZA3 rfl rfl)) ?_
 by_cases hfr:x.frm=frame
 rotate_left
 ·refine zE (A_tt hfr (ZA3 rfl rfl)) ?_
  have hst:ZAf (S.take (k+1)) frame=ZAf (S.take k) frame:=by rw[hst0];unfold ZDd;rw[if_neg (fun q=>hfr q.2)]
  refine zy ?_
  exact⟨(k+1,v,pv),(by show S.length-(k+1)<S.length-k;omega),rfl,hE3,hk',(by
   show Own h h3 [ceI b4 [i64 (ZAf (S.take (k+1)) frame).lo,i64 (ZAf (S.take (k+1)) frame).hi] _ false,slI h v _ 4 ((ZAf (S.take (k+1)) frame).l.flatMap ZBp) (ZAf (S.take (k+1)) frame).l.length]
   rw[hst];exact hO3),(by show ByAt h pv (ZAf (S.take (k+1)) frame).by';rw[hst];exact hB),rfl,rfl,rfl,rfl,rfl,rfl,rfl,trivial⟩
 refine zE (A_ff (fun q=>q hfr) (ZA3 rfl rfl)) ?_
 have hst1:ZAf (S.take (k+1)) frame=match (ZAf (S.take k) frame).by' with|none=>⟨some x,x.lo,x.hi,(ZAf (S.take k) frame).l⟩|some y=>if max (ZAf (S.take k) frame).lo x.lo<=min (ZAf (S.take k) frame).hi x.hi then ⟨some y,max (ZAf (S.take k) frame).lo x.lo,min (ZAf (S.take k) frame).hi x.hi,(ZAf (S.take k) frame).l⟩ else ⟨some y,(ZAf (S.take k) frame).lo,(ZAf (S.take k) frame).hi,(ZAf (S.take k) frame).l++[⟨x.who,x.number,y.who,y.number⟩]⟩:=by rw[hst0];unfold ZDd;rw[if_pos ⟨hk1,hfr⟩];cases (ZAf (S.take k) frame).by' <;> rfl
 have hg4:h3.get b4=some (.cells [i64 (ZAf (S.take k) frame).lo,i64 (ZAf (S.take k) frame).hi] 23 false):=hO3.p1;clear hst0;generalize ZAf (S.take k) frame=s at *;obtain⟨sb,slo,shi,sl⟩:=s;simp only at hO3 hB hst1 hg4 hlen
 cases sb with
 | none =>
  obtain rfl:pv=.pointer none:=hB;simp only at hst1;refine zy ?_;refine zD (ZGd Und.h rfl rfl) ?_;refine ZAR hmix [0,0,2,6,14,1,63] [0,1,2,3,4] (some 5) [([],(some 6)),([],none)] (by kernel_rfl) (by kernel_rfl) ?_;refine z_m ?_;refine z_m ?_;refine z_q ?_;refine z_f ?_;refine z_r ?_;refine ZAM [0] (by kernel_rfl) rfl (ZAA rfl) rfl nb rfl (ZBm rfl rfl (ZAY rfl) ?_);refine ZAM [0,1,2,3,4,5] (by kernel_rfl) rfl (by refine t_r 4 ?_;refine t_f 3 ?_;refine t_q 2 ?_;refine t_m 1 ?_;exact ZAA rfl) rfl nb rfl (ZAz (r:=[i64 x.lo,i64 x.hi]) rfl hw hE3 rfl Tsz.h rfl rfl hO3 rfl rfl rfl (fun h4 hO4 hE4=>?_))
  refine ZAc (ZAA rfl) nb' ?_;refine zy ?_;refine⟨(k+1,v,.pointer (some ⟨b,o+k*8,none⟩)),(by show S.length-(k+1)<S.length-k;omega),rfl,hE4,hk',?_,?_,rfl,rfl,rfl,rfl,rfl,rfl,rfl,trivial⟩
  ·show Own h h4 [ceI b4 [i64 (ZAf (S.take (k+1)) frame).lo,i64 (ZAf (S.take (k+1)) frame).hi] _ false,slI h v _ 4 ((ZAf (S.take (k+1)) frame).l.flatMap ZBp) (ZAf (S.take (k+1)) frame).l.length]
   rw[hst1];exact hO4
  ·show ByAt h (.pointer (some ⟨b,o+k*8,none⟩)) (ZAf (S.take (k+1)) frame).by'
   rw[hst1];exact⟨b,_,rfl,hrow⟩
 | some y =>
  obtain⟨b',o',rfl,hry⟩:=hB;simp only at hst1;have hry1:=hE3.row hry;have hd0:ZAi h3 b' (o'+0)=some (str y.who):=ZAr (k:=0) hry1 rfl;have hd1:ZAi h3 b' (o'+1)=some (i64 y.number):=ZAr (k:=1) hry1 rfl;refine zy ?_;refine zD (ZI2 rfl rfl rfl (by intro n e;cases e)) ?_;refine ZAR hmix [0,0,2,6,14,31,63,127,127,0,767,2047] [0,1,2,3,4,9] (some 5) [([6,7,8],(some 10)),([],(some 11)),([],none)] (by kernel_rfl) (by kernel_rfl) ?_;refine z_r ?_;refine z_m ?_;refine z_q ?_;refine z_f ?_;refine z_r ?_;refine ZBS (nk:=.ptr) rfl rfl rfl rfl rfl (fun _ _ _=>ZG6 Zr.h) ?_;refine ZAM (h1:=(rsv h3)) [0,1,2,3,4] (by kernel_rfl) rfl (ZAA rfl) rfl rfl rfl (ZAT (ZAg rfl rfl rfl rfl rfl Bod.h (ZGw slo shi x.lo x.hi (rsv h3)) (fun v9 h9 hv hw9=>?_)))
  obtain⟨rfl,hE9⟩:=hv;have hE39:=((Ext.rsv h3).trans hE9).set hW3 (Nat.le_refl _) (.cells (ZEw 0 0).cells.toList 23 false);refine z_m ?_;refine z_e ?_;refine z_e ?_;refine ZAM (h1:=(h9.set h3.nx (.cells (ZEw 0 0).cells.toList 23 false))) [0,1,2,3,4,5,6,7,9] (by kernel_rfl) rfl (by refine ZCf (i:=9) (nk:=.ptr) rfl rfl rfl rfl rfl (fun _ _ _=>ZG6 Zr.h) rfl ?_;exact ZAA rfl) rfl rfl rfl (ZAT (ZCW rfl rfl Tsz.h rfl rfl (Heap.get_set_self _ _ _) rfl rfl rfl (fun h10 hU10 hw10=>?_)));have hE910:Ext h3 h10:=hU10.ext hE39 hW3 (Nat.le_refl _);have g10:=hU10.at';have hO10:=hO3.ext hE910;have hE10:=hE3.trans hE910
  clear hU10 hE39;refine ZAM [0,1,2,3,4,5,6,7,8,9,10] (by kernel_rfl) rfl (by refine t_e 8 ?_;exact ZAA rfl) rfl nb rfl (ZBm rfl rfl (ZAY rfl) ?_);refine ZAc (ZAA rfl) rfl ?_;refine zy ?_
  by_cases hmm:max slo x.lo<=min shi x.hi
  ·rw[if_pos hmm] at hst1
   rw[decide_eq_true hmm];refine zy ?_;refine ZAU (r:=[i64 (max slo x.lo),i64 (min shi x.hi)]) hw hE10 rfl Tsz.h rfl rfl hO10 rfl rfl rfl fun h11 hW11 hO11 hE11=>?_;refine zy ?_;refine⟨(k+1,v,.pointer (some ⟨b',o',none⟩)),(by show S.length-(k+1)<S.length-k;omega),rfl,hE11,hk',?_,?_,rfl,rfl,rfl,rfl,rfl,rfl,rfl,trivial⟩
   ·show Own h h11 [ceI b4 [i64 (ZAf (S.take (k+1)) frame).lo,i64 (ZAf (S.take (k+1)) frame).hi] _ false,slI h v _ 4 ((ZAf (S.take (k+1)) frame).l.flatMap ZBp) (ZAf (S.take (k+1)) frame).l.length]
    rw[hst1];exact hO11
   ·show ByAt h (.pointer (some ⟨b',o',none⟩)) (ZAf (S.take (k+1)) frame).by'
    rw[hst1];exact⟨b',o',rfl,hry⟩
  ·rw[if_neg hmm] at hst1
   rw[decide_eq_false hmm];have hq0:=hE910.cell hc0;have hq1:=hE910.cell hc1;have hq2:=hE910.cell hd0;have hq3:=hE910.cell hd1;refine zy ?_;refine ZAR hmix [0,0,2,6,14,0,32,96,224,0,512,1536,3584,0,8192,24576,57344,131070,262142,524287,1048575] xUF5 (some 19) [([],(some 20)),([],none)] (by kernel_rfl) (by kernel_rfl) ?_;refine z_m ?_;refine z_m ?_;refine z_q ?_;refine z_f ?_;refine z_l ?_;refine z_m ?_;refine z_q ?_;refine z_f ?_;refine z_l ?_;refine z_m ?_;refine z_q ?_;refine z_f ?_;refine z_l ?_;refine z_m ?_;refine z_q ?_;refine z_f ?_;refine z_l ?_;refine z_b ?_;refine ZBS (nk:=.sl _ _) rfl rfl rfl rfl rfl (fun _ _ hs=>N_bs hs Und.h Tsz.h Zr.h rfl rfl rfl rfl (ZUG _ _ _ _)) ?_
   have hEa:Ext h10 (h10.add (.cells (ZBp ⟨x.who,x.number,y.who,y.number⟩) 114 false)):=Ext.add hw10 _;refine ZAM (h1:=(Heap.add h10 _)) xUF5 (by kernel_rfl) rfl (ZAA rfl) rfl rfl rfl (ZAT (ZBG (k:=1) (n:=sl.length) (l:=ZBp ⟨x.who,x.number,y.who,y.number⟩) rfl hw (hE10.trans hEa) rfl rfl rfl rfl Und.h inferInstance rfl rfl (hO10.ext hEa).up2 (ZAm Und.h (by intro k;simp) (ZAL Heap.get_add_same rfl)) rfl rfl (by omega) (by omega) (fun v12 h12 hO12 hE12 hw12=>?_)));refine ZAM [0,1,2,3,4,5,6,7,8,9,10,11,12,13,14,15,16,17,18,19] (by kernel_rfl) rfl (ZAA rfl) rfl nb rfl (ZBm rfl rfl (ZAY rfl) ?_);refine ZAc (ZAA rfl) rfl ?_
   refine zy ?_;refine⟨(k+1,v12,.pointer (some ⟨b',o',none⟩)),(by show S.length-(k+1)<S.length-k;omega),rfl,hE12,hk',?_,?_,rfl,rfl,rfl,rfl,rfl,rfl,rfl,trivial⟩
   ·show Own h h12 [ceI b4 [i64 (ZAf (S.take (k+1)) frame).lo,i64 (ZAf (S.take (k+1)) frame).hi] _ false,slI h v12 _ 4 ((ZAf (S.take (k+1)) frame).l.flatMap ZBp) (ZAf (S.take (k+1)) frame).l.length]
    rw[hst1];simp only;rw[List.flatMap_append,List.flatMap_singleton,List.length_append];exact hO12.up2
   ·show ByAt h (.pointer (some ⟨b',o',none⟩)) (ZAf (S.take (k+1)) frame).by'
    rw[hst1];exact⟨b',o',rfl,hry⟩
abbrev xUG1:List Nat:=[0,0,2,6,14,30,62,0,0,510,1022,2047,0,4095,16383]
abbrev xUG2:List Nat:=[0,1,2,3,4,5,6,7,8,9,10,11,12,13]
abbrev xUG3:List Nat:=[0,1,2,3,4,5,6,7,8,9,10,11]
abbrev xUG4:List Nat:=[0,1,2,3,4,5,6,7,8,9,10,12]
abbrev xUG5:List Nat:=[0,1,2,3,4,5,6,7,8,9,10]
abbrev xUG8:List Nat:=[0,1,2,3,4,5,6,7]
abbrev rowG (x:Gp):List Value:=[i64 x.frame,i64 x.kind,i64 x.lo,i64 x.hi]
abbrev gapT:TypeId:=96
abbrev strT:TypeId:=114
theorem ZM6 (x0 x1 x2 x3:Value):Instr.fill (fun i=>some (i*4,4)) (rep 1 (Value.cells (.agg ⟨[i64 0,i64 0,i64 0,i64 0]⟩)).toList).toArray [(0,.agg ⟨[x0,x1,x2,x3]⟩)]=some ⟨[x0,x1,x2,x3]⟩:=by kernel_rfl
theorem ZO5 (l:List Gp):allOne (l.flatMap rowG)=true:=by
 induction l with
 | nil=>rfl
 | cons x l ih =>
  rw[List.flatMap_cons];unfold allOne at ih ⊢;rw[List.all_append,ih];rfl
theorem ZNO (l:List Sk):allOne (l.flatMap ZBp)=true:=by
 induction l with
 | nil=>rfl
 | cons x l ih =>
  rw[List.flatMap_cons];unfold allOne at ih ⊢;rw[List.all_append,ih];rfl
theorem ZM1 (l:List Sk):(l.flatMap ZBp).length=l.length*4:=ZBB (enc:=ZBp) (k:=4) (fun _=>rfl) l
theorem ZCY (l:List Gp):(l.flatMap rowG).length=l.length*4:=ZBB (enc:=rowG) (k:=4) (fun _=>rfl) l
noncomputable def gpT (t:Tk):List Gp×List Sk:=ZHA (ZAO t.notes) (pcT t) t.r.frames
noncomputable abbrev gapX (h:Heap)(b1 b2 b3 b4 c1 bt:Nat)(st:(List Gp×List Sk)×Value×Value):List It:=[slI h st.2.1 gapT 4 (st.1.1.flatMap rowG) st.1.1.length,slI h st.2.2 strT 4 (st.1.2.flatMap ZBp) st.1.2.length,ceI b2 [st.2.1] 47 false,ceI b3 [st.2.2] 48 false,ceI b4 [i64 0,i64 400000] 23 false,ceI b1 [.pointer (some ⟨bt,0,none⟩)] 100 false,ceI c1 [.pointer (some ⟨bt,0,none⟩)] 100 false]
theorem ZAj {h0 h:Heap}{v:Value}{el:TypeId}{sz n:Nat}{cs:List Value}{I:List It}(hO:Own h0 h (slI h0 v el sz cs n::I)):∃a c,v=.slice a n c:=by
 rcases (show ZAE _ _ _ _ _ _ _ from hO.p1) with ⟨e,_,hn⟩|⟨b',sp,op,e,_⟩
 ·exact⟨_,_,by rw[e,hn]⟩
 ·exact⟨_,_,e⟩
theorem Own.shufT {h0 h:Heap}{l R:List It}(hO:Own h0 h (l++R))(x:It)(p q:List Nat)(hp:p.Perm q)(e:l=p.map fun i=>l.getD i x):Own h0 h ((q.map fun i=>l.getD i x)++R):=hO.perm (((List.Perm.of_eq e).trans (hp.map _)).append_right _)
set_option maxHeartbeats 8000000 in
theorem ZTZ {h:Heap}{bt:Nat}{t:Tk}{d:Ads}(hT:TbAt h bt t d)(hok:t.Ok) :
  Sv Tryz.prog 68 [.pointer (some ⟨bt,0,none⟩)] h (RetP fun v h'=>Ext h h'/\∃v1 v2,v=.tuple ⟨[v1,v2]⟩/\Own h h' [slI h v1 gapT 4 ((gpT t).1.flatMap rowG) (gpT t).1.length,slI h v2 strT 4 ((gpT t).2.flatMap ZBp) (gpT t).2.length]):=by
 refine ZA0 fun hw=>?_;have hpl:=ZI9 hok;have hnl:=hok.nlen;have hsl:=ZCu t.notes;have hbd:=ZKb (ZIu hok)
 have hlb:∀pre post,pcT t=pre++post->(ZCH (ZAO t.notes) pre).1.length<=200000/\(ZCH (ZAO t.notes) pre).2.length<=12000000:=fun pre post e=>by
  have h1:pre.length<=200000:=by
   have:=congrArg List.length e;rw[List.length_append] at this;omega
  obtain⟨-,h2,h3⟩:=hbd pre;refine⟨by omega,Nat.le_trans h3 ?_⟩;exact Nat.le_trans (Nat.mul_le_mul h1 (show (ZAO t.notes).length<=60 by omega)) (by decide)
 refine ZAF Tryz.func68 rfl (by rw[Tryz.ntmps68];rfl) ?_;show Wc Tryz.prog ⟨68,60,none⟩ _ _ _ _ _;refine zy ?_;refine ZAv rfl rfl rfl fun h1 hE1 hW1 hg1 hn1=>?_;have hO1:=(Own.nil h h).newCe hw (Nat.le_refl _) hE1 hg1 (Nat.le_refl _);generalize h.nx=b1 at hO1 hg1 ⊢;refine zy ?_;refine ZAa rfl rfl Zr.h fun h2 hE2 hW2 hg2 hn2=>?_;have hO2:=hO1.newCe hW1 hE1.2.1 hE2 hg2 (Nat.le_refl _);replace hE2:=hE1.trans hE2;generalize h1.nx=b2 at hO2 hg2 ⊢;refine zy ?_;refine ZAa rfl rfl Zr.h fun h3 hE3 hW3 hg3 hn3=>?_;have hO3:=hO2.newCe hW2 hE2.2.1 hE3 hg3 (Nat.le_refl _);replace hE3:=hE2.trans hE3;generalize h2.nx=b3 at hO3 hg3 ⊢
 refine zy ?_;refine ZAH rfl rfl Zr.h Tsz.h rfl (fun _=>rfl) rfl rfl rfl fun h4 hE4 hW4 hg4 hn4=>?_;have hO4:=hO3.newCe hW3 hE3.2.1 hE4 hg4 (Nat.le_refl _);replace hE4:=hE3.trans hE4;generalize h3.nx=b4 at hO4 hg4 ⊢;have k1:h4.get b1=some (.cells [.pointer (some ⟨bt,0,none⟩)] 100 false):=hO4.p4;refine zy ?_;refine ZA5 rfl rfl rfl rfl rfl Bod.h rfl rfl ZGy ?_;rintro _ h5 ⟨c1,rfl,hE5,hO5'⟩;have hO5:=hO4.join hW4 hE4.2.1 hE5 hO5';replace hE5:=hE4.trans hE5;have hO6:=(hO5.nilSl strT 4).nilSl gapT 4;have hO7:Own h h5 (gapX h b1 b2 b3 b4 c1 bt (([],[]),.slice none 0 0,.slice none 0 0)):=by
  exact hO6.shuf (ceI 0 [] 0 false) [0,1,2,3,4,5,6] [0,1,5,4,3,6,2] (by decide) rfl
 clear hO6 hO5 hO5' hO4 hO3 hO2 hO1 hE1 hE2 hE3 hE4 hg1 hg2 hg3 hg4 k1 hW1 hW2 hW3 hW4;refine zy ?_;refine ZGm (q:=5) (X:=gapX h b1 b2 b3 b4 c1 bt) (ok:=fun pre st=>st.1=ZCH (ZAO t.notes) pre) (L:=pcT t) (enc:=ZOq) (cs:=ZB4) (el:=120) (op:=false) (s0:=(([],[]),.slice none 0 0,.slice none 0 0)) rfl rfl Bod.h rfl hw hE5 hO7 rfl (ZHi hw hT hok fun st=>by simp) (fun l x h'=>?_) (fun l bn pre x post st h6 R hsp hok' hO6 hE6=>?_) (fun st h6 hok6 hO6 hE6=>?_)
 ·refine ZEI ?_
  refine ZAH rfl rfl Zr.h Tsz.h rfl (fun _=>rfl) rfl rfl rfl fun h8 hE8 hW8 hg8 hn8=>?_;exact ZKP ⟨rfl,rfl,rfl,hE8,hg8⟩
 ·obtain⟨⟨G,K⟩,v1,v2⟩:=st
  simp only at hok';obtain⟨hlG,hlK⟩:=hlb pre (x::post) hsp;have hsn:=ZHa (ZAO t.notes) pre x;rw[<-hok'] at hlG hlK hsn;simp only at hlG hlK;obtain⟨a1,q1,e1⟩:=ZAj hO6.up2;replace e1:v1=.slice a1 G.length q1:=e1;subst e1;have hgn:h6.get bn=some (.cells (ZB4 x) 120 false):=hO6.p1;have hO6':Own h h6 (gapX h b1 b2 b3 b4 c1 bt ((G,K),.slice a1 G.length q1,v2)++R):=hO6.tail;have hg2:h6.get b2=some (.cells [.slice a1 G.length q1] 47 false):=hO6'.p3;have hg3:h6.get b3=some (.cells [v2] 48 false):=hO6'.p4;have hg4:h6.get b4=some (.cells [i64 0,i64 400000] 23 false):=hO6'.has (ceI b4 _ _ _) (by simp);have hgb1:h6.get b1=some (.cells [.pointer (some ⟨bt,0,none⟩)] 100 false):=hO6'.has (ceI b1 _ _ _) (by simp)
  refine zy ?_
  cases hld:x.leader with
  | true =>
   refine zy ?_;refine⟨rfl,((G,K),.slice a1 G.length q1,v2),?_,hO6',hE6⟩
   show (G,K)=ZCH _ _
   rw[hsn];unfold ZB6;rw[if_pos hld]
  | false =>
   refine zy ?_
   by_cases hG0:G.length=0
   ·have hGn:G=[]:=List.eq_nil_of_length_eq_zero hG0
    subst hGn;refine zD (A_tt rfl (ZBA rfl rfl)) ?_;refine ZDi (cs:=rowG ⟨x.frm,1,0,400000⟩) rfl rfl Und.h Tsz.h Zr.h rfl rfl rfl rfl (ZM6 _ _ _ _) fun h7 hE7 hW7 hg7 hn7=>?_;have k2:=hE7.get hg2;refine zy ?_;refine ZBH (k:=1) (l:=rowG ⟨x.frm,1,0,400000⟩) hw (hE6.trans hE7) rfl rfl rfl rfl rfl Und.h inferInstance rfl rfl (hO6'.ext hE7) (ZAm Und.h (by intro k;simp) (ZAL hg7 rfl)) rfl rfl (by simp) (by simp) fun v8 h8 hW8 hO8 hE8=>?_;obtain⟨a8,c8,rfl⟩:=ZAj hO8;refine zy ?_;refine ZAU (r:=[.slice a8 1 c8]) hw hE8 rfl Tsz.h rfl rfl hO8.up3 rfl rfl rfl fun h9 hW9 hO9 hE9=>?_;refine zy ?_;refine⟨rfl,(([⟨x.frm,1,0,400000⟩],K),.slice a8 1 c8,v2),?_,?_,hE9⟩
    ·show ([_],K)=ZCH _ _
     rw[hsn];unfold ZB6;rw[if_neg (by rw[hld];decide),if_pos rfl]
    ·exact hO9.dn3
   ·have hGn:G≠[]:=fun e=>hG0 (by rw[e];rfl)
    refine zD (A_ff (by omega) (ZBA rfl rfl)) ?_;refine ZA4 fun hw6=>ZA5 rfl rfl rfl rfl rfl Bod.h rfl rfl (ZSZ (frame:=x.frm) (hT.ext hE6) hok) ?_;rintro _ h7 ⟨hE7,s,rfl,hF7⟩;have htb:=ZPD x.frm (ZIu hok);have htl:=ZHB (ZAO t.notes) x.frm;have htl2:(ZDS (ZAO t.notes) x.frm).2.length<=60:=by unfold ZDS;simp only;omega
    have hstep:ZB6 (ZAO t.notes) (G,K) x=(G++[⟨x.frm,2,(ZDS (ZAO t.notes) x.frm).1.1,(ZDS (ZAO t.notes) x.frm).1.2⟩],K++(ZDS (ZAO t.notes) x.frm).2):=by unfold ZB6;rw[if_neg (by rw[hld];decide),if_neg hGn]
    rw[hstep] at hsn;generalize ZDS (ZAO t.notes) x.frm=T at *;obtain⟨⟨tlo,thi⟩,tl⟩:=T;simp only at hF7 hsn htl2;have hO7a:=hO6'.newSl hw6 hE6.2.1 hE7 hF7;have hE7':=hE6.trans hE7;have kgn:=hE7.get hgn;have hlen1:(G++[(⟨x.frm,2,tlo,thi⟩:Gp)]).flatMap rowG=G.flatMap rowG++rowG ⟨x.frm,2,tlo,thi⟩:=by rw[List.flatMap_append,List.flatMap_singleton]
    have hlen2:(K++tl).flatMap ZBp=K.flatMap ZBp++tl.flatMap ZBp:=List.flatMap_append;have htl4:=ZM1 tl;refine ZA4 fun hw7=>?_;refine zy ?_;refine ZAH rfl rfl Zr.h Tsz.h rfl (fun _=>rfl) rfl rfl rfl fun h8 hE8 hW8 hg8 hn8=>?_;have hO8:=hO7a.ext hE8;have hE8':=hE7'.trans hE8;have kgn8:=hE8.get kgn;have hOx:Own h h8 (slI h (.slice a1 G.length q1) gapT 4 (G.flatMap rowG) G.length::slI h s strT 4 (tl.flatMap ZBp) tl.length::_):=hO8.up2;have hs1:h8.get b2=some (.cells [.slice a1 G.length q1] 47 false):=hO8.p4;have hs2:h8.get b3=some (.cells [v2] 48 false):=hO8.tail.p4;clear hO6 hO6' hO7a hg2 hg3 hg4 hgb1 hF7 kgn hgn
    refine zy ?_;refine ZAR hmix [0,0,2,0,14,30,63,0,0,511,1023,2047] [0,1,2,3,4,5,7,8] (some 6) [([],(some 9)),([],(some 10)),([],(some 11)),([],none)] (by kernel_rfl) (by kernel_rfl) ?_;refine z_l ?_;refine z_f ?_;refine z_l ?_;refine z_r ?_;refine z_b ?_;refine ZBS (nk:=.sl _ _) rfl rfl rfl rfl rfl (fun _ _ hs=>N_bs hs Und.h Tsz.h Zr.h rfl rfl rfl rfl (ZM6 _ _ _ _)) ?_;refine z_l ?_;refine z_m ?_;have hEa:Ext h8 (h8.add (.cells (rowG ⟨x.frm,2,tlo,thi⟩) gapT false)):=Ext.add hW8 _;refine ZAM (h1:=(Heap.add h8 _)) [0,1,2,3,4,5] (by kernel_rfl) rfl (ZAA rfl) rfl rfl rfl (ZAT (ZBG (k:=1) (n:=G.length) (l:=rowG ⟨x.frm,2,tlo,thi⟩) rfl hw (hE8'.trans hEa) rfl rfl rfl rfl Und.h inferInstance rfl rfl (hOx.ext hEa) (ZAm Und.h (by intro k;simp) (ZAL Heap.get_add_same rfl)) rfl rfl (by omega) (by omega) (fun v9 h9 hO9 hE9 hw9=>?_)))
    obtain⟨a9,c9,rfl⟩:=ZAj hO9;have hs2':h9.get b3=some (.cells [v2] 48 false):=hO9.tail.tail.p3;have hO9':=hO9.up3;refine ZAM [0,1,2,3,4,5,6,7,8] (by kernel_rfl) rfl (by refine t_m 8 ?_;refine t_l 7 ?_;exact ZAA rfl) rfl nb rfl (ZAT (ZBG (k:=tl.length) (n:=K.length) (l:=tl.flatMap ZBp) rfl hw hE9 rfl rfl rfl rfl Und.h inferInstance rfl rfl hO9' ((show ZAE _ _ _ _ _ _ _ from hO9.p2).src (dd:=.slice strT) Und.h (by intro k;simp)) htl4 (ZNO _) (by omega) (by omega) (fun v10 h10 hO10 hE10 hw10=>?_)));obtain⟨a10,c10,rfl⟩:=ZAj hO10;refine ZAM [0,1,2,3,4,5,6,7,8,9] (by kernel_rfl) rfl (ZAA rfl) rfl nb rfl (ZAT (ZAz (r:=[.slice a9 (G.length+1) c9]) rfl hw hE10 rfl Tsz.h rfl rfl hO10.up4 rfl rfl rfl (fun h11 hO11 hE11 hw11=>?_)))
    refine ZAM xUG5 (by kernel_rfl) rfl (ZAA rfl) rfl nb rfl (ZAT (ZAz (r:=[.slice a10 (K.length+tl.length) c10]) rfl hw hE11 rfl Tsz.h rfl rfl (Own.mid (A:=[_,_,_,_]) hO11) rfl rfl rfl (fun h12 hO12 hE12 hw12=>?_)));refine ZAc (ZAA rfl) rfl ?_;refine zy ?_;refine⟨rfl,((G++[⟨x.frm,2,tlo,thi⟩],K++tl),.slice a9 (G.length+1) c9,.slice a10 (K.length+tl.length) c10),hsn.symm,?_,hE12⟩;have hO13:=(Own.shufT (l:=[_,_,_,_,_,_,_,_]) (R:=R) hO12 (ceI 0 [] 0 false) xUG8 [4,3,2,1,0,5,6,7] (by decide) rfl).tail
    show Own h h12 ([slI h (.slice a9 (G.length+1) c9) gapT 4 ((G++[(⟨x.frm,2,tlo,thi⟩:Gp)]).flatMap rowG) (G++[(⟨x.frm,2,tlo,thi⟩:Gp)]).length,slI h (.slice a10 (K.length+tl.length) c10) strT 4 ((K++tl).flatMap ZBp) (K++tl).length,_,_,_,_,_]++R)
    rw[hlen1,hlen2,List.length_append,List.length_append];exact hO13
 obtain⟨⟨G,K⟩,v1,v2⟩:=st;simp only at hok6;obtain⟨hlG,hlK⟩:=hlb (pcT t) [] (by rw[List.append_nil]);rw[<-hok6] at hlG hlK;simp only at hlG hlK;have hgp:gpT t=(G++[⟨t.r.frames,if G=[] then 1 else 3,0,400000⟩],K):=by
  unfold gpT ZHA;rw[<-hok6]
 have hO7:=hO6.tail;obtain⟨a1,q1,e1⟩:=ZAj hO7;replace e1:v1=.slice a1 G.length q1:=e1;subst e1;obtain⟨a2,q2,e2⟩:=ZAj hO7.up2;replace e2:v2=.slice a2 K.length q2:=e2;subst e2;have hg2:h6.get b2=some (.cells [.slice a1 G.length q1] 47 false):=hO7.p3;have hg3:h6.get b3=some (.cells [.slice a2 K.length q2] 48 false):=hO7.p4;have hg4:h6.get b4=some (.cells [i64 0,i64 400000] 23 false):=hO7.has (ceI b4 _ _ _) (by simp);have hgb1:h6.get b1=some (.cells [.pointer (some ⟨bt,0,none⟩)] 100 false):=hO7.has (ceI b1 _ _ _) (by simp);obtain⟨aS,cS,pic,hgt⟩:=(hT.ext hE6).frames;have hO7':Own h h6 [slI h (.slice a1 G.length q1) gapT 4 (G.flatMap rowG) G.length,slI h (.slice a2 K.length q2) strT 4 (K.flatMap ZBp) K.length,ceI b2 [.slice a1 G.length q1] 47 false,ceI b3 [.slice a2 K.length q2] 48 false,loI h5.nx .defd]:=(hO6.shuf (ceI 0 [] 0 false) xUG8 [1,2,3,4,0,5,6,7] (by decide) rfl).sub (List.sublist_append_left [_,_,_,_,_] [_,_,_])
 refine ZBg fun hw6=>?_;refine zy ?_
 by_cases hG:G=[]
 ·refine zE (A_tt (by rw[hG];rfl) (ZBA rfl rfl)) ?_
  have hEa:Ext h6 (h6.add (.cells (rowG ⟨t.r.frames,1,0,400000⟩) gapT false)):=Ext.add hw6 _;have hs3:=hEa.get hg3;refine zy ?_;refine ZAR hmix xUG1 xUG4 (some 11) [([],(some 13)),([],(some 14)),([],none)] (by kernel_rfl) (by kernel_rfl) ?_;refine z_l ?_;refine z_l ?_;refine z_q ?_;refine z_f ?_;refine z_f ?_;refine z_f ?_;refine z_l ?_;refine z_m ?_;refine z_r ?_;refine z_b ?_;refine ZBS (nk:=.sl _ _) rfl rfl rfl rfl rfl (fun _ _ hs=>N_bs hs Und.h Tsz.h Zr.h rfl rfl rfl rfl (ZM6 _ _ _ _)) ?_;refine z_l ?_;refine ZAM (h1:=(Heap.add h6 _)) xUG5 (by kernel_rfl) rfl (ZAA rfl) rfl rfl rfl (ZAT (ZBG (k:=1) (n:=G.length) (l:=rowG ⟨t.r.frames,1,0,400000⟩) rfl hw (hE6.trans hEa) rfl rfl rfl rfl Und.h inferInstance rfl rfl (hO7'.ext hEa) (ZAm Und.h (by intro k;simp) (ZAL Heap.get_add_same rfl)) rfl rfl (by omega) (by omega) (fun v9 h9 hO9 hE9 hw9=>?_)))
  obtain⟨a9,c9,rfl⟩:=ZAj hO9;have hg39:h9.get b3=some (.cells [.slice a2 K.length q2] 48 false):=hO9.p4;refine ZAM xUG3 (by kernel_rfl) rfl (by refine t_l 12 ?_;exact ZAA rfl) rfl nb rfl (ZAT (ZAz (r:=[.slice a9 (G.length+1) c9]) rfl hw hE9 rfl Tsz.h rfl rfl hO9.up3 rfl rfl rfl (fun h10 hO10 hE10 hw10=>?_)));have hg310:h10.get b3=some (.cells [.slice a2 K.length q2] 48 false):=hO10.p4;refine ZAM xUG2 (by kernel_rfl) rfl (by refine t_l 12 ?_;exact ZAA rfl) rfl nb rfl (ZAT (ZAz (r:=[.slice a2 K.length q2]) rfl hw hE10 rfl Tsz.h rfl rfl hO10.up4 rfl rfl rfl (fun h11 hO11 hE11 hw11=>?_)));refine ZAc (ZAA rfl) rfl ?_
  have hO12:Own h h11 ([h5.nx].map (fun r=>loI r .defd)++[slI h (.slice a9 (G.length+1) c9) gapT 4 (G.flatMap rowG++rowG ⟨t.r.frames,1,0,400000⟩) (G.length+1),slI h (.slice a2 K.length q2) strT 4 (K.flatMap ZBp) K.length,ceI b2 [.slice a9 (G.length+1) c9] 47 false,ceI b3 [.slice a2 K.length q2] 48 false]):=hO11.shuf (ceI 0 [] 0 false) [0,1,2,3,4] [4,2,3,1,0] (by decide) rfl;have hcl:ZDA h h11 [h5.nx]:=hO12.colls;have hO13:=hO12.del;have hlen1:(G++[(⟨t.r.frames,1,0,400000⟩:Gp)]).flatMap rowG=G.flatMap rowG++rowG ⟨t.r.frames,1,0,400000⟩:=by rw[List.flatMap_append,List.flatMap_singleton]
  have hr2:(delL h11 [h5.nx]).get b2=some (.cells [.slice a9 (G.length+1) c9] 47 false):=hO13.p3;have hr3:(delL h11 [h5.nx]).get b3=some (.cells [.slice a2 K.length q2] 48 false):=hO13.p4;refine zy ?_;refine ZAB (ZGs hcl.nd hcl.defd (ZAW rfl (ZCM OneC.h (ZAP hr2 rfl)) (ZAW rfl (ZCM OneC.h (ZAP hr3 rfl)) rfl)) ⟨hcl.ext0 hE11 hw,_,_,rfl,?_⟩);rw[hgp,if_pos hG]
  show Own h _ [slI h _ gapT 4 ((G++[(⟨t.r.frames,1,0,400000⟩:Gp)]).flatMap rowG) (G++[(⟨t.r.frames,1,0,400000⟩:Gp)]).length,_]
  rw[hlen1,List.length_append];exact hO13.sub (List.sublist_append_left [_,_] [_,_])
 ·have hG0:¬((G.length:Int)=0):=fun e=>hG (List.eq_nil_of_length_eq_zero (by omega))
  refine zE (A_ff hG0 (ZBA rfl rfl)) ?_;have hEa:Ext h6 (h6.add (.cells (rowG ⟨t.r.frames,3,0,400000⟩) gapT false)):=Ext.add hw6 _;have hs3:=hEa.get hg3;refine zy ?_;refine ZAR hmix xUG1 xUG4 (some 11) [([],(some 13)),([],(some 14)),([],none)] (by kernel_rfl) (by kernel_rfl) ?_;refine z_l ?_;refine z_l ?_;refine z_q ?_;refine z_f ?_;refine z_f ?_;refine z_f ?_;refine z_l ?_;refine z_m ?_;refine z_r ?_;refine z_b ?_;refine ZBS (nk:=.sl _ _) rfl rfl rfl rfl rfl (fun _ _ hs=>N_bs hs Und.h Tsz.h Zr.h rfl rfl rfl rfl (ZM6 _ _ _ _)) ?_;refine z_l ?_;refine ZAM (h1:=(Heap.add h6 _)) xUG5 (by kernel_rfl) rfl (ZAA rfl) rfl rfl rfl (ZAT (ZBG (k:=1) (n:=G.length) (l:=rowG ⟨t.r.frames,3,0,400000⟩) rfl hw (hE6.trans hEa) rfl rfl rfl rfl Und.h inferInstance rfl rfl (hO7'.ext hEa) (ZAm Und.h (by intro k;simp) (ZAL Heap.get_add_same rfl)) rfl rfl (by omega) (by omega) (fun v9 h9 hO9 hE9 hw9=>?_)))
  obtain⟨a9,c9,rfl⟩:=ZAj hO9;have hg39:h9.get b3=some (.cells [.slice a2 K.length q2] 48 false):=hO9.p4;refine ZAM xUG3 (by kernel_rfl) rfl (by refine t_l 12 ?_;exact ZAA rfl) rfl nb rfl (ZAT (ZAz (r:=[.slice a9 (G.length+1) c9]) rfl hw hE9 rfl Tsz.h rfl rfl hO9.up3 rfl rfl rfl (fun h10 hO10 hE10 hw10=>?_)));have hg310:h10.get b3=some (.cells [.slice a2 K.length q2] 48 false):=hO10.p4;refine ZAM xUG2 (by kernel_rfl) rfl (by refine t_l 12 ?_;exact ZAA rfl) rfl nb rfl (ZAT (ZAz (r:=[.slice a2 K.length q2]) rfl hw hE10 rfl Tsz.h rfl rfl hO10.up4 rfl rfl rfl (fun h11 hO11 hE11 hw11=>?_)));refine ZAc (ZAA rfl) rfl ?_
  have hO12:Own h h11 ([h5.nx].map (fun r=>loI r .defd)++[slI h (.slice a9 (G.length+1) c9) gapT 4 (G.flatMap rowG++rowG ⟨t.r.frames,3,0,400000⟩) (G.length+1),slI h (.slice a2 K.length q2) strT 4 (K.flatMap ZBp) K.length,ceI b2 [.slice a9 (G.length+1) c9] 47 false,ceI b3 [.slice a2 K.length q2] 48 false]):=hO11.shuf (ceI 0 [] 0 false) [0,1,2,3,4] [4,2,3,1,0] (by decide) rfl;have hcl:ZDA h h11 [h5.nx]:=hO12.colls;have hO13:=hO12.del;have hlen1:(G++[(⟨t.r.frames,3,0,400000⟩:Gp)]).flatMap rowG=G.flatMap rowG++rowG ⟨t.r.frames,3,0,400000⟩:=by rw[List.flatMap_append,List.flatMap_singleton]
  have hr2:(delL h11 [h5.nx]).get b2=some (.cells [.slice a9 (G.length+1) c9] 47 false):=hO13.p3;have hr3:(delL h11 [h5.nx]).get b3=some (.cells [.slice a2 K.length q2] 48 false):=hO13.p4;refine zy ?_;refine ZAB (ZGs hcl.nd hcl.defd (ZAW rfl (ZCM OneC.h (ZAP hr2 rfl)) (ZAW rfl (ZCM OneC.h (ZAP hr3 rfl)) rfl)) ⟨hcl.ext0 hE11 hw,_,_,rfl,?_⟩);rw[hgp,if_neg hG]
  show Own h _ [slI h _ gapT 4 ((G++[(⟨t.r.frames,3,0,400000⟩:Gp)]).flatMap rowG) (G++[(⟨t.r.frames,3,0,400000⟩:Gp)]).length,_]
  rw[hlen1,List.length_append];exact hO13.sub (List.sublist_append_left [_,_] [_,_])
abbrev totT:TypeId:=164
theorem ZPe {h0 h:Heap}{b:Nat}{p q c d:Int}{I:List It}(hw0:WF h0)(he0:Ext h0 h)(hO:Own h0 h (ceI b [i64 p,i64 q] totT false::I))(hp:-4000000000000000<=p/\p<=4000000000000000)(hq:-4000000000000000<=q/\q<=4000000000000000)(hc:-4000000000000000<=c/\c<=4000000000000000)(hd:-4000000000000000<=d/\d<=4000000000000000) :
  Sv Tryz.prog 71 [.pointer (some ⟨b,0,none⟩),ZEw c d] h (RetP fun v h'=>v=.tuple ⟨[]⟩/\Own h0 h' (ceI b [i64 (p+c),i64 (q+d)] totT false::I)/\Ext h0 h'):=by
 refine ZA0 fun hw=>?_;have hg:h.get b=some (.cells [i64 p,i64 q] totT false):=hO.p1;refine ZAF Tryz.func71 rfl (by rw[Tryz.ntmps71];rfl) ?_;show Wc Tryz.prog ⟨71,24,none⟩ _ _ _ _ _;refine zy ?_;refine ZAv rfl rfl rfl fun h1 hE1 hW1 hg1 hn1=>?_;have k1:=hE1.get hg;have hO1:=hO.newCe hw he0.2.1 hE1 hg1 (Nat.le_refl _);replace hE1:=he0.trans hE1;generalize h.nx=b3 at *;refine zy ?_;refine ZAR hmix [0,0,0,4,12,28,0,64,252,0,512,1536,3584,0,8192,32256,8189,73725,204797,524287,1048575,2097151] [0,1,2,3,4,5,6,7,8,9,10,11,12,13,14,15,16,17] (some 18) [([19,20],(some 21)),([],none)] (by kernel_rfl) (by kernel_rfl) ?_
 refine z_m ?_;refine z_m ?_;refine z_m ?_;refine z_q ?_;refine z_f ?_;refine z_l ?_;refine z_f ?_;refine z_l ?_;refine z_y ?_;refine z_m ?_;refine z_q ?_;refine z_f ?_;refine z_l ?_;refine z_f ?_;refine z_l ?_;refine z_y ?_;refine z_q ?_;refine z_f ?_;refine ZAM [0,2,3,4,5,6,7,8,9,10,11,12,16,17] (by kernel_rfl) rfl (ZAA rfl) rfl nb rfl (ZAT (ZAz (r:=[i64 (p+c),i64 q]) rfl hw0 hE1 rfl Tsz.h rfl rfl hO1.up2 rfl rfl rfl (fun h2 hO2 hE2 hw2=>?_)));have k2:h2.get b=some (.cells [i64 (p+c),i64 q] totT false):=hO2.p1;have k3:h2.get b3=some (.cells (ZEw c d).cells.toList 23 false):=hO2.p2;refine z_q ?_;refine z_f ?_
 refine ZAM [0,1,2,3,4,5,6,7,8,9,10,11,12,13,14,15,16,17,18,19,20] (by kernel_rfl) rfl (by refine t_y 15 ?_;refine t_l 14 ?_;refine t_f 13 ?_;refine t_m 1 ?_;exact ZAA rfl) rfl nb rfl (ZAT (ZAz (r:=[i64 (p+c),i64 (q+d)]) rfl hw0 hE2 rfl Tsz.h rfl rfl hO2 rfl rfl rfl (fun h4 hO4 hE4 hw4=>?_)));refine ZAc (ZAA rfl) nb' ?_;refine zy ?_;exact ZC1 rfl ⟨rfl,hO4.sub (List.Sublist.cons_cons _ (List.sublist_cons_self _ _)),hE4⟩
def ZFH (h:Heap)(g:FuncId)(cap:List Value)(G:List Gp)(p:Gp->Bool):Prop:=ZAy Tryz.prog g=true/\∀h1,Ext h h1->∀x∈G,Sv Tryz.prog g ([]++([.agg ⟨rowG x⟩]++cap)) h1 (RetP fun v h'=>v=.bool (p x)/\Ext h1 h')
theorem ZFH.ext {h h':Heap}{g:FuncId}{cap:List Value}{G:List Gp}{p:Gp->Bool}(hp:ZFH h g cap G p)(he:Ext h h'):ZFH h' g cap G p:=⟨hp.1,fun h1 hE x hx=>hp.2 h1 (he.trans hE) x hx⟩
abbrev grpT:TypeId:=107
set_option maxHeartbeats 4000000 in
theorem ZIz {h:Heap}{a:Option Addr}{c:Nat}{G:List Gp}{lo hi:Int}{g:FuncId}{cap:List Value}{p:Gp->Bool}(hG:TabA rowG 4 h a G)(hp:ZFH h g cap G p)(hbd:∀x∈G,x.Bd)(hl:G.length<=200001)(h1:-10000000000<=lo/\lo<=10000000000)(h2:-10000000000<=hi/\hi<=10000000000) :
  Sv Tryz.prog 38 [.agg ⟨[.slice a G.length c,i64 lo,i64 hi]⟩,.func (.func g) ⟨[]⟩ ⟨cap⟩] h (RetP fun v h'=>v=.tuple ⟨[ZEw (ZD4 G lo hi p).1.1 (ZD4 G lo hi p).1.2,.bool (ZD4 G lo hi p).2]⟩/\Ext h h'):=by
 refine ZA0 fun hw=>?_
 have bnd:∀(f:Gp->Int) (q:Gp->Bool) (k:Nat),(∀x∈G,0<=f x/\f x<=400000)->0<=sumG f q (G.take k)/\sumG f q (G.take k)<=80000400000:=fun f q k hf=>by
  have:=ZG0 q (l:=G.take k) fun x hx=>hf x (List.mem_of_mem_take hx);rw[List.length_take] at this;have h3:min k G.length<=200001:=by omega
  generalize min k G.length=r at *;omega
 refine ZAF Tryz.func38 rfl (by rw[Tryz.ntmps38];rfl) ?_;show Wc Tryz.prog ⟨38,50,none⟩ _ _ _ _ _;refine zy ?_;refine ZAv rfl rfl rfl fun e1 hE1 hW1 hg1 hn1=>?_;have hO1:=(Own.nil h h).newCe hw (Nat.le_refl _) hE1 hg1 (Nat.le_refl _);generalize h.nx=b2 at hO1 ⊢;refine zy ?_;refine ZAa rfl rfl Zr.h fun e2 hE2 hW2 hg2 hn2=>?_;have hO2:=hO1.newCe hW1 hE1.2.1 hE2 hg2 (Nat.le_refl _);replace hE2:=hE1.trans hE2;generalize e1.nx=b4 at hO2 ⊢;refine zy ?_;refine ZAa rfl rfl Zr.h fun e3 hE3 hW3 hg3 hn3=>?_;have hO3:=hO2.newCe hW2 hE2.2.1 hE3 hg3 (Nat.le_refl _);replace hE3:=hE2.trans hE3;generalize e2.nx=b6 at hO3 ⊢
 refine zy ?_;refine ZAa rfl rfl Zr.h fun e4 hE4 hW4 hg4 hn4=>?_;have hO4:=hO3.newCe hW3 hE3.2.1 hE4 hg4 (Nat.le_refl _);replace hE4:=hE3.trans hE4;generalize e3.nx=b7 at hO4 ⊢;have k2:e4.get b2=some (.cells [.slice a G.length c,i64 lo,i64 hi] grpT false):=hO4.p4;clear hO1 hO2 hO3 hE1 hE2 hE3 hg1 hg2 hg3 hg4 hW1 hW2 hW3;refine zy ?_;refine ZAS (fun (k:Nat) m ds h'=>ds=[]/\Ext h h'/\k<=G.length/\Own h h' [ceI b7 [i64 (sumG Gp.lo (fun x=>!p x) (G.take k)),i64 (sumG Gp.hi (fun x=>!p x) (G.take k))] totT false,ceI b6 [i64 (sumG Gp.lo p (G.take k)),i64 (sumG Gp.hi p (G.take k))] totT false,ceI b4 [i64 0,i64 0] 23 false,ceI b2 [.slice a G.length c,i64 lo,i64 hi] grpT false]/\AllK m [(1,.func (.func g) ⟨[]⟩ ⟨cap⟩),(2,.pointer (some ⟨b2,0,none⟩)),(4,.pointer (some ⟨b4,0,none⟩)),(6,.pointer (some ⟨b6,0,none⟩)),(7,.pointer (some ⟨b7,0,none⟩)),(8,.func (.func 71) ⟨[.pointer (some ⟨b6,0,none⟩)]⟩ ⟨[]⟩),(9,.func (.func 71) ⟨[.pointer (some ⟨b7,0,none⟩)]⟩ ⟨[]⟩),(15,.slice a G.length c),(16,i64 G.length),(17,i64 (k:Nat))]) (fun k=>G.length-k) 0 ?_ ?_
 ·exact⟨rfl,hE4,Nat.zero_le _,hO4,rfl,rfl,rfl,rfl,rfl,rfl,rfl,rfl,rfl,rfl,trivial⟩
 clear hO4 hE4 hW4 k2;rintro k m ds h3 ⟨rfl,hE3,hk,hO3,hall⟩;refine Wc.le (ZBg fun hW3=>?_) (Le.kn hall);clear hall;have b1:=bnd Gp.lo p k (ZQR hbd);have b2':=bnd Gp.hi p k (ZQ6 hbd);have b3:=bnd Gp.lo (fun x=>!p x) k (ZQR hbd);have b4':=bnd Gp.hi (fun x=>!p x) k (ZQ6 hbd);refine zy ?_;refine zC (ZAx rfl rfl) (fun hlt=>?_) (fun hlt=>?_);rotate_left
 ·have:k=G.length:=by omega
  subst this;rw[List.take_length] at hO3 b1 b2' b3 b4';have g7:=hO3.p1;have g6:=hO3.p2;have g4:=hO3.p3;have g2:=hO3.p4;have g7':h3.get b7=some (.cells [i64 (sumG Gp.lo (fun x=>!p x) G),i64 (sumG Gp.hi (fun x=>!p x) G)] totT false):=g7;have g6':h3.get b6=some (.cells [i64 (sumG Gp.lo p G),i64 (sumG Gp.hi p G)] totT false):=g6;have g2':h3.get b2=some (.cells [.slice a G.length c,i64 lo,i64 hi] grpT false):=g2;refine zy ?_;refine zW (ZGw _ _ _ _ h3) fun h5 hE5=>?_;have hO5:=hO3.ext hE5;refine zy ?_;refine ZAU (r:=[i64 (ZD4 G lo hi p).1.1,i64 (ZD4 G lo hi p).1.2]) hw (hE3.trans hE5) rfl Tsz.h rfl rfl hO5.up3 rfl rfl rfl fun h6 hW6 hO6 hE6=>?_
  have g8:=hO6.p1;refine zy ?_;exact ZAB (ZAC (ZAW rfl (ZAt RowC.h (ZAL g8 rfl)) (ZCU rfl rfl)) ⟨rfl,hE6⟩)
 have hk':k<G.length:=by omega
 obtain⟨b,o,oa,eaG,row,hrow,hxr⟩:=hG k hk';have htk:G.take (k+1)=G.take k++[G[k]]:=by rw[List.take_add_one,List.getElem?_eq_getElem hk'];rfl
 have hbx:=hbd _ (List.getElem_mem hk');have hpx:=fun h1 hE=>hp.2 h1 hE _ (List.getElem_mem hk');have s1:=ZFG Gp.lo p (G.take k) G[k];have s2:=ZFG Gp.hi p (G.take k) G[k];have s3:=ZFG Gp.lo (fun x=>!p x) (G.take k) G[k];have s4:=ZFG Gp.hi (fun x=>!p x) (G.take k) G[k];rw[<-htk] at s1 s2 s3 s4;generalize G[k]=x at hxr htk hbx hpx s1 s2 s3 s4;have hx':row=rowG x:=hxr;subst hx';unfold Gp.Bd Bd at hbx;have hrow1:=hE3.row hrow;subst eaG;refine zy ?_;refine zD (A_ix Und.h Tsz.h rfl rfl) ?_;refine ZAH rfl rfl Zr.h Tsz.h rfl (fun _=>rfl) rfl rfl rfl fun h4 hE4 hW4 hg4 hn4=>?_;have hO4:=hO3.ext hE4;have hE34:=hE3.trans hE4
 refine zy ?_;refine ZBe rfl rfl rfl rfl rfl hp.1 rfl rfl (hpx h4 hE34) fun h5 hE5=>?_;have k5:=hE5.get hg4;have hO5:=hO4.ext hE5;have hE35:=hE34.trans hE5;clear hO4 hE34 hg4 hO3 hpx hrow1
 cases hb:p x with
 | true =>
  rw[hb,if_pos rfl] at s1 s2;rw[hb,if_neg (show ¬(!true)=true by decide)] at s3 s4;refine zy ?_;refine zR (ZPe (c:=x.lo) (d:=x.hi) hw hE35 hO5.up2 (by omega) (by omega) (by omega) (by omega)) ?_;rintro _ h6 ⟨rfl,hO6,hE6⟩;refine zy ?_;refine⟨k+1,(by show G.length-(k+1)<G.length-k;omega),rfl,hE6,hk',?_,rfl,rfl,rfl,rfl,rfl,rfl,rfl,rfl,rfl,rfl,trivial⟩;rw[s1,s2,s3,s4];exact hO6.up2
 | false =>
  rw[hb,if_neg (by decide)] at s1 s2;rw[hb,if_pos (show (!false)=true by rfl)] at s3 s4;refine zy ?_;refine zR (ZPe (c:=x.lo) (d:=x.hi) hw hE35 hO5 (by omega) (by omega) (by omega) (by omega)) ?_;rintro _ h6 ⟨rfl,hO6,hE6⟩;refine zy ?_;refine⟨k+1,(by show G.length-(k+1)<G.length-k;omega),rfl,hE6,hk',?_,rfl,rfl,rfl,rfl,rfl,rfl,rfl,rfl,rfl,rfl,trivial⟩;rw[s1,s2,s3,s4];exact hO6
theorem ZPZ {a:Option Addr}{cap:Nat}{l:List Gp}{h:Heap}(hs:SrcK rowG 4 h a l)(hn:a=none->l=[]/\cap=0)(hlen:l.length<=1000000) :
  Sv Tryz.prog 94 [.slice a l.length cap] h (RetP fun v' h'=>ZAE h h' v' 96 4 (l.flatMap rowG) l.length/\Ext h h'):=by
 refine ZA0 fun hw=>?_;refine ZAF Tryz.func94 rfl (by rw[Tryz.ntmps94];rfl) ?_;show Wc Tryz.prog ⟨94,8,none⟩ _ _ _ _ _;refine zy ?_
 cases a with
 | none =>
  obtain⟨rfl,rfl⟩:=hn rfl;refine zD (ZQU Und.h rfl rfl) ?_;exact ZAB (ZAC rfl ⟨ZAE.nil _ _ _ _,Ext.refl _⟩)
 | some a =>
  refine zD (ZRi Und.h rfl rfl) ?_;refine ZDi rfl rfl Und.h Tsz.h Zr.h rfl rfl rfl rfl rfl fun h1' hE1 hW1 hg1 hx1=>?_;refine zy ?_;refine ZEU (k:=l.length) (n:=0) (l:=l.flatMap rowG) hw hE1 rfl rfl rfl rfl rfl Und.h inferInstance rfl rfl (ZAE.lit (n:=0) (sz:=4) (cs:=[]) hg1 rfl (Nat.le_refl _)) (SrcK.src (enc:=rowG) (k:=4) (dd:=.slice 96) (by decide) (fun _=>rfl) (hs.ext hE1) Und.h (by intro k;simp)) (ZCY l) (ZO5 l) (by omega) (by omega) fun v2 h2 hF2 hE2 _ _ _=>?_;refine zy ?_;refine ZAB (ZAC rfl ⟨?_,hE2⟩);rw[List.nil_append,Nat.zero_add] at hF2;exact hF2
theorem ZKw {α:Type}{p:α->Bool}{l:List α}(h:ZCl p l = -1):∀x∈l,p x=false:=by
 unfold ZCl at h
 cases hq:l.findIdx? p with
 | none=>exact List.findIdx?_eq_none_iff.1 hq
 | some k=>rw[hq] at h;simp only at h;omega
theorem ZKn {α:Type}{p:α->Bool}{l:List α}(h:ZCl p l ≠ -1):∃k,∃hk:k<l.length,ZCl p l=(k:Int)/\p l[k]=true/\∀j (hj:j<l.length),j<k->p l[j]=false:=by
 unfold ZCl at h ⊢
 cases hq:l.findIdx? p with
 | none=>rw[hq] at h;exact absurd rfl h
 | some k =>
  obtain⟨h1,h2,h3⟩:=List.findIdx?_eq_some_iff_getElem.1 hq;exact⟨k,h1,rfl,h2,fun j hj hlt=>by simpa using h3 j hlt⟩
def ZEg {α:Type}(p:α->Bool)(l:List α)(j:Nat):List α:=(l.take j).filter fun x=>!p x
theorem ZIQ {α:Type}{p:α->Bool}{l:List α}{j:Nat}(hj:j<l.length):ZEg p l (j+1)=if p l[j]=true then ZEg p l j else ZEg p l j++[l[j]]:=by
 have htk:l.take (j+1)=l.take j++[l[j]]:=by rw[List.take_add_one,List.getElem?_eq_getElem hj];rfl
 unfold ZEg;rw[htk,List.filter_append]
 cases hq:p l[j] with
 | true=>simp[hq]
 | false=>simp[hq]
theorem ZLW {α:Type}{p:α->Bool}{l:List α}{k:Nat}(hk:k<=l.length)(h:∀j (hj:j<l.length),j<k->p l[j]=false):ZEg p l k=l.take k:=by
 unfold ZEg;rw[List.filter_eq_self];intro x hx;obtain⟨j,hj,rfl⟩:=List.getElem_of_mem hx;rw[List.length_take] at hj;rw[List.getElem_take,h j (by omega) (by omega)]
 rfl
theorem ZOz {a:Option Addr}{cap:Nat}{G:List Gp}{h:Heap}{g:FuncId}{capv:List Value}{p:Gp->Bool}(hG:TabA rowG 4 h a G)(hp:ZFH h g capv G p)(hlen:G.length<=1000000) :
  Sv Tryz.prog 137 [.slice a G.length cap,.func (.func g) ⟨[]⟩ ⟨capv⟩] h (RetP fun v h'=>v=i64 (ZCl p G)/\Ext h h'):=by
 refine ZAF Tryz.func137 rfl (by rw[Tryz.ntmps137];rfl) ?_;show Wc Tryz.prog ⟨137,19,none⟩ _ _ _ _ _;refine zy ?_;refine ZAS (fun (k:Nat) m ds h'=>ds=[]/\Ext h h'/\k<=G.length/\(∀j (hj:j<G.length),j<k->p G[j]=false)/\AllK m [(0,.slice a G.length cap),(1,.func (.func g) ⟨[]⟩ ⟨capv⟩),(7,i64 G.length),(8,i64 (k:Nat))]) (fun k=>G.length-k) 0 ?_ ?_
 ·exact⟨rfl,Ext.refl _,Nat.zero_le _,fun _ _ h=>absurd h (Nat.not_lt_zero _),rfl,rfl,rfl,rfl,trivial⟩
 rintro k m ds h3 ⟨rfl,hE3,hk,hno,hall⟩;refine Wc.le ?_ (Le.kn hall);clear hall;refine zy ?_;refine zC (ZAx rfl rfl) (fun hlt=>?_) (fun hlt=>?_);rotate_left
 ·have e:ZCl p G = -1:=by
   unfold ZCl;rw[List.findIdx?_eq_none_iff.2 fun x hx=>?_];obtain⟨j,hj,rfl⟩:=List.getElem_of_mem hx;exact hno j hj (by omega)
  rw[e];refine zy ?_;exact ZAB (ZAC rfl ⟨rfl,hE3⟩)
 have hk':k<G.length:=by omega
 obtain⟨b,o,oa,rfl,row,hrow,hxr⟩:=hG k hk';have hx':row=rowG G[k]:=hxr;subst hx';have hrow1:=hE3.row hrow;have hpx:=hp.2 h3 hE3 _ (List.getElem_mem hk');refine zy ?_;refine zD (A_ix Und.h Tsz.h rfl rfl) ?_;refine ZBe rfl rfl rfl rfl rfl hp.1 rfl rfl hpx fun h4 hE4=>?_
 cases hb:p G[k] with
 | true =>
  have e:ZCl p G=k:=by
   unfold ZCl;rw[List.findIdx?_eq_some_iff_getElem.2 ⟨hk',hb,fun j hj=>by simpa using hno j (by omega) hj⟩]
  rw[e];refine zy ?_;exact ZAB (ZAC rfl ⟨rfl,hE3.trans hE4⟩)
 | false =>
  refine zy ?_;refine⟨k+1,(by show G.length-(k+1)<G.length-k;omega),rfl,hE3.trans hE4,hk',fun j hj hlt2=>?_,rfl,rfl,rfl,rfl,trivial⟩
  rcases Nat.lt_or_ge j k with q|q
  ·exact hno j hj q
  ·obtain rfl:j=k:=by omega
   exact hb
theorem ZOD (n:Nat):allOne (rep n (Value.agg ⟨[i64 0,i64 0,i64 0,i64 0]⟩).cells.toList)=true:=by
 induction n with
 | zero=>rfl
 | succ n ih=>rw[ZFK];exact ih
theorem ZMP {vs:List Value}{G:List Gp}{j:Nat}(hj:j<G.length)(hd:vs.drop (j*4)=(G.flatMap rowG).drop (j*4)++vs.drop (G.length*4)):cut vs (j*4) 4=some (rowG G[j]):=by
 have hfl:=ZCY G;have h1:=ZFT (f:=rowG) (k:=4) (P:=G) hj fun _ _=>rfl;rw[ZEA (by rw[hfl];omega)] at h1;have hl:j*4+4<=vs.length:=by
  have:=congrArg List.length hd;rw[List.length_drop,List.length_append,List.length_drop,List.length_drop,hfl] at this;omega
 rw[ZEA hl,<-h1,hd,List.take_append_of_le_length (by rw[List.length_drop,hfl];omega)]
theorem ZTE {cs r:List Value}{q:Nat}(hr:r.length=4)(hq:q*4+4<=cs.length):(cs.take (0+q*4)++(r++cs.drop (0+q*4+r.length))).length=cs.length/\(cs.take (0+q*4)++(r++cs.drop (0+q*4+r.length))).take ((q+1)*4)=cs.take (q*4)++r/\∀k,(q+1)*4<=k->(cs.take (0+q*4)++(r++cs.drop (0+q*4+r.length))).drop k=cs.drop k:=by
 rw[Nat.zero_add,hr];have hlt:(cs.take (q*4)).length=q*4:=by rw[List.length_take];omega
 refine⟨by rw[List.length_append,List.length_append,hlt,hr,List.length_drop];omega,?_,fun k hk=>?_⟩
 ·rw[<-List.append_assoc]
  exact List.take_left' (by rw[List.length_append,hlt,hr];omega)
 ·rw[<-List.append_assoc,List.drop_append,List.drop_eq_nil_of_le (by rw[List.length_append,hlt,hr];omega),List.nil_append,List.drop_drop,List.length_append,hlt,hr]
  congr 1;omega
theorem ZMH {cs R Z:List Value}{j n:Nat}(hd:cs.drop (j*4)=R.drop (j*4)++Z)(hR:R.length=n*4)(hj:j<n):cs.drop ((j+1)*4)=R.drop ((j+1)*4)++Z:=by
 have e1:(cs.drop (j*4)).drop 4=(R.drop (j*4)++Z).drop 4:=by rw[hd]
 rw[List.drop_append_of_le_length (by rw[List.length_drop,hR];omega),List.drop_drop,List.drop_drop,show j*4+4=(j+1)*4 by omega] at e1;exact e1
def DelG (b:Nat)(sp:Option Nat)(op:Bool)(G:List Gp)(cc:Nat)(h:Heap)(r:Value)(h':Heap):Prop:=r=.slice (some ⟨b,0,sp⟩) G.length cc/\G.length<=cc/\Exb (fun c=>c=b) h h'/\∃vs,h'.get b=some (.cells (G.flatMap rowG++vs) gapT op)/\(G.flatMap rowG++vs).length=cc*4
set_option maxHeartbeats 4000000 in
theorem ZNk {b:Nat}{sp:Option Nat}{op:Bool}{G:List Gp}{vs:List Value}{cc:Nat}{h:Heap}{g:FuncId}{capv:List Value}{p:Gp->Bool}(hg:h.get b=some (.cells (G.flatMap rowG++vs) gapT op))(hsp:sp=none\/sp=some 4)(hcc:G.length<=cc)(hvl:(G.flatMap rowG++vs).length=cc*4)(hbd:ZAy Tryz.prog g=true)
  (hp:∀h1,Exb (fun c=>c=b) h h1->∀x∈G,Sv Tryz.prog g ([]++([.agg ⟨rowG x⟩]++capv)) h1 (RetP fun v h'=>v=.bool (p x)/\Ext h1 h')) (hlen:G.length<=1000000) :
  Sv Tryz.prog 97 [.slice (some ⟨b,0,sp⟩) G.length cc,.func (.func g) ⟨[]⟩ ⟨capv⟩] h (RetP (DelG b sp op (G.filter fun x=>!p x) cc h)):=by
 have hfl:∀l:List Gp,(l.flatMap rowG).length=l.length*4:=ZCY
 have hI:TabA rowG 4 h (some ⟨b,0,sp⟩) G:=fun i hi=>⟨b,0,sp,rfl,rowG G[i],by
  unfold ZBC;rw[hg]
  show cut _ (0+i*4) 4=_
  rw[Nat.zero_add];exact ZMP hi (by rw[List.drop_append_of_le_length (by rw[hfl];omega),List.drop_left' (hfl G)]),rfl⟩
 refine ZAF Tryz.func97 rfl (by rw[Tryz.ntmps97];rfl) ?_;show Wc Tryz.prog ⟨97,42,none⟩ _ _ _ _ _;refine zy ?_;refine zW (ZOz (p:=p) hI ⟨hbd,fun h1 hE x hx=>hp h1 (Exb.of hE) x hx⟩ hlen) fun h1 hE1=>?_;have hg1:=hE1.get hg;have hX1:Exb (fun c=>c=b) h h1:=Exb.of hE1;clear hI
 by_cases hf:ZCl p G = -1
 ·have hno:=ZKw hf
  have hff:(G.filter fun x=>!p x)=G:=List.filter_eq_self.2 fun x hx=>by rw[hno x hx];rfl
  rw[hf];refine zy ?_;refine zD (A_tt rfl (ZBA rfl rfl)) ?_;exact ZAB (ZAC rfl ⟨by rw[hff];rfl,by rw[hff];exact hcc,hX1,vs,by rw[hff];exact hg1,by rw[hff];exact hvl⟩)
 obtain⟨k0,hk0,ef,hp0,hno⟩:=ZKn hf;rw[ef];have hne:¬((k0:Int) = -1):=by omega
 have hkf0:ZEg p G (k0+1)=G.take k0:=by rw[ZIQ hk0,if_pos hp0,ZLW (by omega) hno]
 have hkl0:(ZEg p G (k0+1)).length=k0:=by rw[hkf0,List.length_take];omega
 refine zy ?_;refine zD (A_ff hne (ZBA rfl rfl)) ?_
 refine ZAS (fun (j:Nat) m ds h'=>ds=[]/\j<=G.length/\Exb (fun c=>c=b) h h'/\(∃cs:List Value,h'.get b=some (.cells cs gapT op)/\cs.length=cc*4/\cs.take ((ZEg p G j).length*4)=(ZEg p G j).flatMap rowG/\cs.drop (j*4)=(G.flatMap rowG).drop (j*4)++cs.drop (G.length*4))/\(ZEg p G j).length<j ∧
   AllK m [(0,.slice (some ⟨b,0,sp⟩) G.length cc),(1,.func (.func g) ⟨[]⟩ ⟨capv⟩),(5,i64 ((ZEg p G j).length:Nat)),(6,i64 (j:Nat))]) (fun j=>G.length-j) (k0+1) ?_ ?_
 ·refine⟨rfl,hk0,hX1,⟨_,hg1,hvl,?_,?_⟩,by omega,rfl,rfl,by rw[hkl0];rfl,rfl,trivial⟩
  ·rw[hkl0,hkf0]
   have e2:G.flatMap rowG=(G.take k0).flatMap rowG++(G.drop k0).flatMap rowG:=by rw[<-List.flatMap_append,List.take_append_drop]
   rw[e2,List.append_assoc,List.take_left' (by rw[hfl,List.length_take];omega)]
  ·rw[List.drop_append_of_le_length (by rw[hfl];omega),List.drop_left' (hfl G)]
 rintro j m ds h2 ⟨rfl,hj,hX2,⟨cs,hg2,hcl,hct,hcd⟩,hlt,hall⟩;refine Wc.le (ZBg fun hW2=>?_) (Le.kn hall);clear hall;refine zy ?_;refine zC (ZAx rfl rfl) (fun hjl=>?_) (fun hjl=>?_)
 ·have hj':j<G.length:=by omega
  have hlc:=ZIQ (p:=p) hj';have hcell2:ZBC h2 b (0+j*4) 4=some (rowG G[j]):=by
   unfold ZBC;rw[hg2]
   show cut _ (0+j*4) 4=_
   rw[Nat.zero_add];exact ZMP hj' hcd
  have hmem:=List.getElem_mem hj';generalize G[j]=x at *;generalize hkq:(ZEg p G j).length=q at *;refine zy ?_;refine zD (A_ix Und.h Tsz.h rfl rfl) ?_;refine ZAH rfl rfl Zr.h Tsz.h rfl (fun _=>rfl) rfl rfl rfl fun h3 hE3 hW3 hg3 hn3=>?_;have hX3:Exb (fun c=>c=b) h h3:=hX2.trans (Exb.of hE3);have hpx:=hp h3 hX3 x hmem;have k3:=hE3.get hg2;refine zy ?_
  cases hb:p x with
  | true =>
   rw[hb] at hpx;rw[if_pos hb] at hlc;refine ZBe rfl rfl rfl rfl rfl hbd rfl rfl hpx fun h4 hE4=>?_;refine zy ?_;refine⟨j+1,(by show G.length-(j+1)<G.length-j;omega),rfl,hj',hX3.trans (Exb.of hE4),⟨cs,hE4.get k3,hcl,by rw[hlc,hkq];exact hct,?_⟩,(by rw[hlc,hkq];omega),rfl,rfl,(by rw[hlc,hkq];rfl),rfl,trivial⟩;exact ZMH hcd (hfl G) hj'
  | false =>
   rw[hb] at hpx;rw[if_neg (by rw[hb];simp)] at hlc;have hql:(ZEg p G (j+1)).length=q+1:=by rw[hlc,List.length_append,hkq];rfl
   have hqlt:q<G.length:=by omega
   refine ZBe rfl rfl rfl rfl rfl hbd rfl rfl hpx fun h4 hE4=>?_;have k4:=hE4.get k3;have g4:=hE4.get hg3;refine zy ?_;refine zD (A_ix Und.h Tsz.h rfl rfl) ?_;refine ZAe rfl Tsz.h rfl rfl k4 rfl rfl (ZDL (by show 0+q*4+4<=cs.length;omega)) fun h5 hU=>?_;refine zy ?_;obtain⟨r1,r2,r3⟩:=ZTE (cs:=cs) (r:=rowG x) (q:=q) rfl (by omega);refine⟨j+1,(by show G.length-(j+1)<G.length-j;omega),rfl,hj',(hX3.trans (Exb.of hE4)).upd hU rfl,⟨_,hU.at',r1.trans hcl,?_,?_⟩,by omega,rfl,rfl,(by rw[hql];rfl),rfl,trivial⟩
   ·rw[hql,hlc,List.flatMap_append,List.flatMap_singleton,<-hct]
    exact r2
   ·have h1:=r3 ((j+1)*4) (by omega)
    have h2:=r3 (G.length*4) (by omega);exact (h1.trans (ZMH hcd (hfl G) hj')).trans (by rw[<-h2];rfl)
 have hk2:j=G.length:=by omega
 subst hk2;have hff:ZEg p G G.length=G.filter fun x=>!p x:=by unfold ZEg;rw[List.take_length]
 rw[hff] at hct hlt;rw[hff];generalize hkq:(G.filter fun x=>!p x).length=q at *;refine zy ?_;refine zD (ZSe (z:=3) (k:=q) Und.h Tsz.h hsp (by omega) (by omega) rfl rfl) ?_
 refine ZPf rfl rfl rfl (ZQi rfl rfl rfl rfl (ZRM (z:=(Value.agg ⟨[i64 0,i64 0,i64 0,i64 0]⟩)) Und.h Zr.h rfl (ZOD _) (by rcases hsp with rfl|rfl <;> simp) (by omega) hg2 (ZDL (by rw[ZCT,hcl];show q*4+(G.length-q)*4<=cc*4;omega)))) ?_
 refine zy ?_;refine zD (ZUV (z:=3) (k:=q) Und.h Tsz.h hsp (by omega) rfl rfl) ?_;refine ZAB (ZAC rfl ⟨by rw[hkq];rfl,by omega,hX2.set _ rfl,(rep (G.length-q) (Value.agg ⟨[i64 0,i64 0,i64 0,i64 0]⟩).cells.toList++cs.drop (q*4+(rep (G.length-q) (Value.agg ⟨[i64 0,i64 0,i64 0,i64 0]⟩).cells.toList).length)),by rw[Heap.get_set_self,<-hct],?_⟩);rw[<-hct,List.length_append,List.length_append,List.length_take,List.length_drop,ZCT,hcl]
 show min (q*4) (cc*4)+((G.length-q)*4+(cc*4-(q*4+(G.length-q)*4)))=cc*4
 omega
theorem ZFq {g:Int}(h:g=8\/g=16\/g=35):ZDD g=80\/ZDD g=40\/ZDD g=16:=by
 rcases h with rfl|rfl|rfl
 ·exact .inl rfl
 ·exact .inr (.inl rfl)
 ·exact .inr (.inr rfl)
theorem ZNS {g:Int}(hg:g=8\/g=16\/g=35)(h:Heap):Sv Tryz.prog 136 [i64 g,i64 1,i64 0] h (RetP fun v h'=>v=.tuple ⟨[i64 (ZDD g),i64 0]⟩/\h'=h):=by
 have hf:=ZFq hg;have hs:=ZNq g h;generalize ZDD g=f at *;refine ZAF Tryz.func136 rfl (by rw[Tryz.ntmps136];rfl) ?_;show Wc Tryz.prog ⟨136,36,none⟩ _ _ _ _ _;refine zy ?_;refine ZDo rfl rfl rfl rfl rfl Bod.h rfl rfl hs ?_;refine zy ?_;refine zD (A_ff (by omega) (ZBA rfl rfl)) ?_;refine zV (ZAw (a:=0) (lo:=0) (hi:=f-1) (decide_eq_false (by omega)) _) ?_
 refine zE (ZOG rfl rfl (by omega) (c:=(200000:Int).tdiv f) rfl (by rcases hf with rfl|rfl|rfl <;> decide) (by rcases hf with rfl|rfl|rfl <;> decide)) ?_
 have hq:1<=(200000:Int).tdiv f:=by rcases hf with rfl|rfl|rfl <;> decide
 refine zy ?_;refine zV (ZAw (a:=1) (lo:=0) (hi:=(200000:Int).tdiv f) (decide_eq_false (by omega)) _) ?_;refine zD (ZPJ rfl rfl (c:=f) (by omega) (by omega) (by omega)) ?_;exact ZAB (ZAC rfl ⟨by rw[Int.add_zero];rfl,rfl⟩)
theorem ZTH {h:Heap}{bt:Nat}{t:Tk}{d:Ads}(hT:TbAt h bt t d)(hok:t.Ok):Sv Tryz.prog 95 [.pointer (some ⟨bt,0,none⟩)] h (RetP fun v h'=>v=i64 (ZDD t.r.gauge)/\h'=h):=by
 obtain⟨aS,cS,pic,hgt⟩:=hT.frames;refine ZAF Tryz.func95 rfl (by rw[Tryz.ntmps95];rfl) ?_;show Wc Tryz.prog ⟨95,16,none⟩ _ _ _ _ _;refine zy ?_;refine zV (ZNS hok.r.gauge h) ?_;exact ZAB (ZAC rfl ⟨rfl,rfl⟩)
theorem ZO6 {h:Heap}{ba bm:Nat}{a m:I3}{x:Gp}{p q:Bool}(ha:h.get ba=some (.cells (rowM a) 77 p))(hm:h.get bm=some (.cells (rowM m) 77 q)) :
  Sv Tryz.prog 96 [.agg ⟨rowG x⟩,.pointer (some ⟨ba,0,none⟩),.pointer (some ⟨bm,0,none⟩)] h (RetP fun v h'=>v=.bool (betw a m x)/\Ext h h'):=by
 refine ZA0 fun hw=>?_;refine ZAF Tryz.func96 rfl (by rw[Tryz.ntmps96];rfl) ?_;show Wc Tryz.prog ⟨96,17,none⟩ _ _ _ _ _;refine zy ?_;refine ZAv rfl rfl rfl fun h1 hE1 hW1 hg1 hn1=>?_;have k1:=hE1.get ha;have k2:=hE1.get hm;refine zy ?_;refine zC (ZBw rfl rfl) (fun c1=>?_) (fun c1=>?_)
 ·refine zy ?_
  refine zE (ZO9 rfl rfl) ?_;have e:betw a m x=decide (x.frame<=m.1):=by unfold betw;simp only[show a.1<x.frame from c1,true_and]
  rw[e];refine zy ?_;exact ZAB (ZAC rfl ⟨rfl,hE1⟩)
 ·have e:betw a m x=false:=by unfold betw;exact decide_eq_false fun q=>c1 q.1
  rw[e];refine zy ?_;exact ZAB (ZAC rfl ⟨rfl,hE1⟩)
abbrev xUK7:List Nat:=[0,1,2,3,4,5,6,7,8,9,10,11]
abbrev ZDx (p:Value×Gr):List Value:=[p.1,i64 p.2.lo,i64 p.2.hi]
noncomputable def grI (h:Heap)(L:List (Value×Gr)):List It:=L.map fun p=>slI h p.1 gapT 4 (p.2.gaps.flatMap rowG) p.2.gaps.length
theorem ZRQ (h:Heap)(L:List (Value×Gr))(p:Value×Gr):grI h (L++[p])=grI h L++[slI h p.1 gapT 4 (p.2.gaps.flatMap rowG) p.2.gaps.length]:=by unfold grI;rw[List.map_append];rfl
def GrAt (h:Heap)(row:List Value)(g:Gr):Prop:=∃a c,row=[.slice a g.gaps.length c,i64 g.lo,i64 g.hi]/\TabA rowG 4 h a g.gaps
theorem GrAt.ext {h h':Heap}{row:List Value}{g:Gr}(hg:GrAt h row g)(he:Ext h h'):GrAt h' row g:=by
 obtain⟨a,c,e,ht⟩:=hg;exact⟨a,c,e,ht.ext' he⟩
theorem ZSF (x0 x1 x2:Value):Instr.fill (fun i=>some (i*3,3)) (rep 1 (Value.cells (.agg ⟨[.slice none 0 0,i64 0,i64 0]⟩)).toList).toArray [(0,.agg ⟨[x0,x1,x2]⟩)]=some ⟨[x0,x1,x2]⟩:=by kernel_rfl
noncomputable def grT (t:Tk):List Gr×List Int:=ZC9 (ldT t) (ZDD t.r.gauge) t.r.marks (gpT t).1 t.wlo t.whi
noncomputable abbrev grX (h:Heap)(br:Nat)(op:Bool)(s:GrS)(L:List (Value×Gr))(v4 v5:Value)(vs:List Value):List It:=[slI h v4 grpT 3 (L.flatMap ZDx) L.length,ceI br (s.rest.flatMap rowG++vs) gapT op,slI h v5 3 1 (s.wrong.map i64) s.wrong.length]++grI h L
theorem ZTv {h0 h:Heap}{v:Value}{l:List Gp}(hF:ZAE h0 h v gapT 4 (l.flatMap rowG) l.length):∃a,v=.slice a l.length l.length/\TabA rowG 4 h a l:=by
 obtain⟨a,e,hS,-⟩:=ZAE.rowsAt (enc:=rowG) (k:=4) (fun _=>rfl) hF rfl;exact⟨a,e,hS.1⟩
theorem ZKj {h:Heap}{a:Option Addr}{L:List (Value×Gr)}(hR:TabA ZDx 3 h a L)(hg:∀p∈L,GrAt h (ZDx p) p.2):ZAV 3 GrAt h a (L.map Prod.snd):=fun i hi=>by
 rw[List.length_map] at hi;obtain⟨b,o,oa,e,row,h1,h2⟩:=hR i hi;refine⟨b,o,oa,e,row,h1,?_⟩;rw[List.getElem_map,show row=ZDx L[i] from h2];exact hg _ (List.getElem_mem hi)
set_option maxHeartbeats 16000000 in
theorem ZNP {h:Heap}{bt:Nat}{t:Tk}{d:Ads}{al:Option Addr}{cl:Nat}(hT:TbAt h bt t d)(hok:t.Ok)(hl:SrcK rowG 4 h al (gpT t).1)(hbd:∀x∈(gpT t).1,x.Bd)(hll:(gpT t).1.length<=200001)(hl0:0<(gpT t).1.length) :
  Sv Tryz.prog 69 [.pointer (some ⟨bt,0,none⟩),.slice al (gpT t).1.length cl] h (RetP fun v h'=>Ext h h'/\∃a1 c1 v2,v=.tuple ⟨[.slice a1 (grT t).1.length c1,v2]⟩/\ZAV 3 GrAt h' a1 (grT t).1/\ZAE h h' v2 3 1 ((grT t).2.map i64) (grT t).2.length/\Foot h h' (fun k=>ZAV 3 GrAt k a1 (grT t).1)):=by
 refine ZA0 fun hw=>?_;obtain⟨am,cm,as',cs,aL,cL,an,cn⟩:=d;obtain⟨n,hn⟩:∃n:Nat,t.r.frames=n:=⟨t.r.frames.toNat,by have:=hok.r.frames;omega⟩;have hn':t.r.frames.toNat=n:=by omega
 have hfr:=hok.r.frames;have hld:=ZL6 hn;have hfoot:=ZFq hok.r.gauge;have hmk:=hok.r.marks;have hml:=hok.r.mlen;obtain⟨aS,cS,bp,hgt,-,hgp,hRl⟩:=id hT;rw[hn'] at hgt;have hgr:=ZTX (ld:=ldT t) (foot:=ZDD t.r.gauge) (M:=t.r.marks) (l:=(gpT t).1) (by omega) (by omega) fun m hm=>(hmk m hm).2.2;generalize hG:(gpT t).1=l at *;have hcp:∀f:Nat,f<=n->∀{h'},Ext h h'->ZAi h' bp (0+f*1)=some (i64 (picN (ldT t) f:Nat)):=fun f hf {h'} hE=>hE.cell (ZAP hgp (by rw[ZAq,Nat.zero_add,Nat.mul_one,ZGQ (by omega)]));have hc0:=hcp n (Nat.le_refl _) (Ext.refl h);refine ZAF Tryz.func69 rfl (by rw[Tryz.ntmps69];rfl) ?_;show Wc Tryz.prog ⟨69,168,none⟩ _ _ _ _ _
 refine zy ?_;refine ZAR hmix [0,1,3,7,0,16,48,112,240,496,1023,2047,4095] xUK7 (some 12) [([],none)] (by kernel_rfl) (by kernel_rfl) ?_;refine z_m ?_;refine z_q ?_;refine z_f ?_;refine z_l ?_;refine z_m ?_;refine z_q ?_;refine z_f ?_;refine z_f ?_;refine z_f ?_;refine z_l ?_;refine ZAI rfl rfl rfl rfl rfl (fun _=>ZAN (k:=n) Und.h Tsz.h rfl rfl hn (by omega)) ?_;refine z_l ?_;refine ZAM xUK7 (by kernel_rfl) rfl (ZAA rfl) rfl nb rfl (ZBm rfl rfl (ZAY rfl) ?_);refine ZAc (ZAA rfl) nb' ?_;refine zy ?_;refine zR (ZPZ hl (fun e=>by obtain⟨b,o,oa,e2,-⟩:=hl.1 0 hl0;rw[e] at e2;cases e2) (by omega)) ?_
 rintro v1 h1 ⟨hF1,hE1⟩;obtain⟨br,sp,op,rfl,hgb,hcl,hb0⟩:=hF1.blk hl0;have hsp:sp=none\/sp=some 4:=by
  rcases hF1 with ⟨e,-⟩|⟨b',sp',op',e,-,-,-,hs⟩
  ·cases e
  ·cases e;exact hs
 have hO1:Own h h1 (grX h br op (grAt (ldT t) (ZDD t.r.gauge) t.r.marks l 0) [] (.slice none 0 0) (.slice none 0 0) []):=by
  have q:=((((Own.nil h h).newCe hw (Nat.le_refl _) hE1 hgb hb0).nilSl 3 1).up2).nilSl grpT 3
  show Own h h1 [slI h _ grpT 3 [] 0,ceI br (l.flatMap rowG++[]) gapT op,slI h _ _ 1 [] 0]
  rw[List.append_nil];exact q
 clear hF1 hgb hc0;have hgt1:=hE1.get hgt;refine zy ?_;refine ZAS (fun (st:Nat×GrS×List (Value×Gr)×Value×Value×List Value) m ds h'=>ds=[]/\Ext h h'/\st.1<=t.r.marks.length/\st.2.1=grAt (ldT t) (ZDD t.r.gauge) t.r.marks l st.1/\Own h h' (grX h br op st.2.1 st.2.2.1 st.2.2.2.1 st.2.2.2.2.1 st.2.2.2.2.2)/\st.2.2.1.map Prod.snd=st.2.1.all/\(st.2.1.rest.flatMap rowG++st.2.2.2.2.2).length=l.length*4/\AllK m [(0,.pointer (some ⟨bt,0,none⟩)),(1,.slice al l.length cl),(4,st.2.2.2.1),(5,st.2.2.2.2.1),(6,i64 st.2.1.left),(7,.slice (some ⟨br,0,sp⟩) st.2.1.rest.length l.length),(37,.slice am t.r.marks.length cm),(38,i64 t.r.marks.length),(39,i64 (st.1:Nat))]) (fun st=>t.r.marks.length-st.1) (0,grAt (ldT t) (ZDD t.r.gauge) t.r.marks l 0,[],.slice none 0 0,.slice none 0 0,[]) ?_ ?_
 ·refine⟨rfl,hE1,Nat.zero_le _,rfl,hO1,rfl,?_,rfl,rfl,rfl,rfl,?_,rfl,rfl,rfl,rfl,trivial⟩
  ·show (l.flatMap rowG++[]).length=l.length*4
   rw[List.append_nil];exact ZCY l
  ·show some (i64 _)=some (i64 (picN (ldT t) (ldT t).length:Nat))
   rw[hld]
 clear hO1 hE1 hgt1;rintro⟨k,s,L,v4,v5,vs⟩ m ds h3 ⟨rfl,hE3,hk,hs,hO3,hLs,hvl,hall⟩;refine Wc.le (ZBg fun hW3=>?_) (Le.kn hall);clear hall;simp only at hk hs hO3 hLs hvl ⊢;have hgk:=hgr k hk;rw[<-hs] at hgk;obtain⟨gk1,gk2,gk3,gk4,gk5⟩:=hgk;have hkm:k<=60:=by omega
 have hgt3:=hE3.get hgt;have hLl:L.length<=60:=by
  have:=congrArg List.length hLs;rw[List.length_map] at this;omega
 refine zy ?_;refine zC (ZAx rfl rfl) (fun hlt=>?_) (fun hlt=>?_);rotate_left
 ·have hkM:k=t.r.marks.length:=by omega
  have hgt:grT t=(s.all++[⟨s.rest,t.wlo-s.left,t.whi-s.left⟩],s.wrong):=by
   unfold grT ZC9;rw[hG,<-hkM,<-hs]
  have hwl:=hok.w;have hwh:=hok.whi;have hkc:((k:Nat):Int)<=60:=by omega
  have hrT:TabA rowG 4 h3 (some ⟨br,0,sp⟩) s.rest:=fun i hi=>⟨br,0,sp,rfl,rowG s.rest[i],by
   unfold ZBC;rw[show h3.get br=some (.cells (s.rest.flatMap rowG++vs) gapT op) from hO3.p2]
   show cut _ (0+i*4) 4=_
   rw[Nat.zero_add];exact ZMP hi (by rw[List.drop_append_of_le_length (by rw[ZCY];omega),List.drop_left' (ZCY s.rest)]),rfl⟩
  have hEa:Ext h3 (h3.add (.cells (ZDx (.slice (some ⟨br,0,sp⟩) s.rest.length l.length,⟨s.rest,t.wlo-s.left,t.whi-s.left⟩)) grpT false)):=Ext.add hW3 _;have hgta:=hEa.get hgt3;refine zy ?_;refine ZAR hmix [0,0,0,4,12,28,60,124,0,508,0,1024,3072,7168,15360,31744,0,130048,262140,524286,1048574,2097151,0,4194303,16777215] [0,1,2,3,4,5,6,7,8,9,10,11,12,13,14,15,16,17,18,19,20,22] (some 21) [([],(some 23)),([],(some 24)),([],none)] (by kernel_rfl) (by kernel_rfl) ?_;refine z_m ?_;refine z_m ?_;refine z_m ?_;refine z_q ?_;refine z_f ?_;refine z_f ?_;refine z_f ?_;refine z_l ?_;refine z_m ?_;refine z_u ?_;refine z_m ?_;refine z_q ?_;refine z_f ?_;refine z_f ?_;refine z_f ?_;refine z_l ?_;refine z_m ?_;refine z_u ?_;refine z_b ?_;refine z_b ?_
  refine ZBS (nk:=.sl _ _) rfl rfl rfl rfl rfl (fun _ _ hs=>N_bs hs Und.h Tsz.h Zr.h rfl rfl rfl rfl (ZSF _ _ _)) ?_;refine z_m ?_;refine ZAM (h1:=(Heap.add h3 _)) [0,1,2,3,4,5,6,7,8,9,10,11,12,13,14,15,16,17,18,19,20] (by kernel_rfl) rfl (ZAA rfl) rfl rfl rfl (ZAT (ZBG (k:=1) (n:=L.length) (l:=ZDx (.slice (some ⟨br,0,sp⟩) s.rest.length l.length,⟨s.rest,t.wlo-s.left,t.whi-s.left⟩)) rfl hw (hE3.trans hEa) rfl rfl rfl rfl Und.h inferInstance rfl rfl (hO3.ext hEa) (ZAm Und.h (by intro k;simp) (ZAL Heap.get_add_same rfl)) rfl rfl (by omega) (by omega) (fun v9 h9 hO9 hE9 hw9=>?_)));obtain⟨a9,c9,rfl⟩:=ZAj hO9
  refine ZAM [0,1,2,3,4,5,6,7,8,9,10,11,12,13,14,15,16,17,18,19,20,21] (by kernel_rfl) rfl (by refine t_m 22 ?_;exact ZAA rfl) rfl nb rfl (ZBm rfl rfl (ZAY rfl) ?_);refine ZAM [0,1,2,3,4,5,6,7,8,9,10,11,12,13,14,15,16,17,18,19,20,21,22,23] (by kernel_rfl) rfl (by refine t_m 22 ?_;exact ZAA rfl) rfl nb rfl (ZBm rfl rfl (ZAY rfl) ?_);refine ZAc (ZAA rfl) rfl ?_;refine zy ?_;have hlf:(L++[((.slice (some ⟨br,0,sp⟩) s.rest.length l.length:Value),(⟨s.rest,t.wlo-s.left,t.whi-s.left⟩:Gr))]).flatMap ZDx=L.flatMap ZDx++ZDx (.slice (some ⟨br,0,sp⟩) s.rest.length l.length,⟨s.rest,t.wlo-s.left,t.whi-s.left⟩):=by rw[List.flatMap_append,List.flatMap_singleton]
  have hat:∀k,(∀x∈slI h (.slice a9 (L.length+1) c9) grpT 3 (L.flatMap ZDx++ZDx (.slice (some ⟨br,0,sp⟩) s.rest.length l.length,⟨s.rest,t.wlo-s.left,t.whi-s.left⟩)) (L.length+1)::ceI br (s.rest.flatMap rowG++vs) gapT op::slI h v5 3 1 (s.wrong.map i64) s.wrong.length::grI h L,x.p k)->ZAV 3 GrAt k a9 (s.all++[⟨s.rest,t.wlo-s.left,t.whi-s.left⟩]):=fun k hx=>by
   have hF9:ZAE h k (.slice a9 (L.length+1) c9) grpT 3 ((L++[((.slice (some ⟨br,0,sp⟩) s.rest.length l.length:Value),(⟨s.rest,t.wlo-s.left,t.whi-s.left⟩:Gr))]).flatMap ZDx) (L.length+1):=by rw[hlf];exact hx _ List.mem_cons_self
   obtain⟨a',e',hR9,-⟩:=ZAE.rowsAt (enc:=ZDx) (k:=3) (fun _=>rfl) hF9 (by rw[List.length_append];rfl)
   have hgr9:∀p∈L,GrAt k (ZDx p) p.2:=fun p hp=>by
    have hm:slI h p.1 gapT 4 (p.2.gaps.flatMap rowG) p.2.gaps.length∈grI h L:=List.mem_map.2 ⟨p,hp,rfl⟩;have hF:ZAE h k p.1 gapT 4 (p.2.gaps.flatMap rowG) p.2.gaps.length:=hx (slI h p.1 gapT 4 (p.2.gaps.flatMap rowG) p.2.gaps.length) (List.mem_cons_of_mem _ (List.mem_cons_of_mem _ (List.mem_cons_of_mem _ hm)));obtain⟨a0,e0,t0⟩:=ZTv hF;exact⟨a0,p.2.gaps.length,by show [p.1,_,_]=_;rw[e0],t0⟩
   have hgl:GrAt k (ZDx (.slice (some ⟨br,0,sp⟩) s.rest.length l.length,⟨s.rest,t.wlo-s.left,t.whi-s.left⟩)) ⟨s.rest,t.wlo-s.left,t.whi-s.left⟩:=by
    refine⟨_,l.length,rfl,fun i (hi:i<s.rest.length)=>?_⟩;refine⟨br,0,sp,rfl,rowG s.rest[i],?_,rfl⟩;unfold ZBC;rw[show k.get br=some (.cells (s.rest.flatMap rowG++vs) gapT op) from hx (ceI br (s.rest.flatMap rowG++vs) gapT op) (List.mem_cons_of_mem _ List.mem_cons_self)]
    show cut _ (0+i*4) 4=_
    rw[Nat.zero_add];exact ZMP hi (by rw[List.drop_append_of_le_length (by rw[ZCY];omega),List.drop_left' (ZCY s.rest)])
   have ea:a9=a':=by injection e'
   have:=ZKj hR9.1 fun p hp=>(List.mem_append.1 hp).elim (hgr9 p) fun q=>by rw[List.mem_singleton.1 q];exact hgl
   rw[List.map_append,hLs,<-ea] at this;exact this
  rw[hgt];have hlen:(s.all++[(⟨s.rest,t.wlo-s.left,t.whi-s.left⟩:Gr)]).length=L.length+1:=by rw[List.length_append,<-hLs,List.length_map];rfl
  exact ZAB (ZAC rfl ⟨hE9,a9,c9,_,(by show _=Value.tuple ⟨[.slice a9 (s.all++[(⟨s.rest,t.wlo-s.left,t.whi-s.left⟩:Gr)]).length c9,_]⟩;rw[hlen];rfl),hat h9 hO9.has,hO9.p3,Foot.of hO9 hat⟩)
 have hk':k<t.r.marks.length:=by omega
 obtain⟨b,o,oa,eam,row,hrow,hxr⟩:=hRl.m k hk';have hrow1:=hE3.row hrow;have hstep0:grAt (ldT t) (ZDD t.r.gauge) t.r.marks l (k+1)=ZCn (ldT t) (ZDD t.r.gauge) t.r.marks l s k:=by rw[hs];rfl
 have eM:t.r.marks.getD k default=t.r.marks[k]:=by rw[List.getD_eq_getElem?_getD,List.getElem?_eq_getElem hk'];rfl
 have hbm:=hmk _ (List.getElem_mem hk');generalize hmm:t.r.marks[k]=mm at hxr eM hbm;have hx':row=rowM mm:=hxr;subst hx';replace eam:am=some ⟨b,o,oa⟩:=eam;subst eam;refine zy ?_;refine zD (A_ix Und.h Tsz.h rfl rfl) ?_;refine ZAa rfl rfl Zr.h fun h4 hE4 hW4 hg4 hn4=>?_;refine zy ?_;refine ZAe rfl Tsz.h rfl rfl hg4 rfl rfl rfl fun h5 hU5=>?_;have hE45:Ext h3 h5:=hU5.ext hE4 hW3 (Nat.le_refl _);have hE5:=hE3.trans hE45;have g9:=hU5.at';have hgt5:=hE45.get hgt3;have hO5:=hO3.newCe hW3 hE3.2.1 hE45 g9 (Nat.le_refl _);clear hU5 hg4 hE4 hW4 hO3;generalize h3.nx=b9 at *;refine zy ?_
 by_cases hk0:k=0
 ·have hstep:s=grAt (ldT t) (ZDD t.r.gauge) t.r.marks l (k+1):=by rw[hstep0];unfold ZCn;rw[if_pos hk0]
  refine zD (A_tt (by omega) (ZBA rfl rfl)) ?_;exact⟨(k+1,s,L,v4,v5,vs),(by show t.r.marks.length-(k+1)<t.r.marks.length-k;omega),rfl,hE5,hk',hstep,hO5.tail,hLs,hvl,rfl,rfl,rfl,rfl,rfl,rfl,rfl,rfl,rfl,trivial⟩
 refine zE (A_ff (by omega) (ZBA rfl rfl)) ?_;have hk1:k-1<t.r.marks.length:=by omega
 obtain⟨b',o',oa',eam',row',hrow',hxr'⟩:=hRl.m (k-1) hk1;have eA:t.r.marks.getD (k-1) default=t.r.marks[k-1]:=by rw[List.getD_eq_getElem?_getD,List.getElem?_eq_getElem hk1];rfl
 have hba:=hmk _ (List.getElem_mem hk1);generalize hma:t.r.marks[k-1]=ma at hxr' eA hba;have hx':row'=rowM ma:=hxr';subst hx';cases (show some _=some _ from eam');have hrow1':=hE5.row hrow';unfold ZCn at hstep0;rw[if_neg hk0,eA,eM] at hstep0;refine zy ?_;refine zE (ZAN (k:=k-1) Und.h Tsz.h rfl rfl (by omega) (by omega)) ?_;refine ZA4 fun hW5=>?_;refine zy ?_;refine ZAH rfl rfl Zr.h Tsz.h rfl (fun _=>rfl) rfl rfl rfl fun h6 hE6 hW6 hg6 hn6=>?_;have hE56:=hE5.trans hE6;have hO6:=hO5.newCe hW5 hE5.2.1 hE6 hg6 (Nat.le_refl _);have hgt6:=hE6.get hgt5;have g96:=hE6.get g9;clear hO5 hE6 hrow1 hrow1';generalize h5.nx=b10 at *
 refine zy ?_
 by_cases hro:ma.2.1=mm.2.1
 rotate_left
 ·rw[if_pos (.inl hro)] at hstep0
  refine zD (A_tt hro (ZA3 rfl rfl)) ?_;exact⟨(k+1,s,L,v4,v5,vs),(by show t.r.marks.length-(k+1)<t.r.marks.length-k;omega),rfl,hE56,hk',hstep0.symm,hO6.tail.tail,hLs,hvl,rfl,rfl,rfl,rfl,rfl,rfl,rfl,rfl,rfl,trivial⟩
 refine zD (A_ff (fun q=>q hro) (ZA3 rfl rfl)) ?_;refine zU (ZEM (f:=ma.1.toNat) (x:=ma.1) (hT.ext hE56) hn (by omega) (by omega) (by omega)) ?_
 cases hla:ldg (ldT t) ma.1.toNat with
 | true =>
  rw[if_pos (.inr (.inl hla))] at hstep0;refine zy ?_;exact⟨(k+1,s,L,v4,v5,vs),(by show t.r.marks.length-(k+1)<t.r.marks.length-k;omega),rfl,hE56,hk',hstep0.symm,hO6.tail.tail,hLs,hvl,rfl,rfl,rfl,rfl,rfl,rfl,rfl,rfl,rfl,trivial⟩
 | false =>
 refine zy ?_;refine zU (ZEM (f:=mm.1.toNat) (x:=mm.1) (hT.ext hE56) hn (by omega) (by omega) (by omega)) ?_
 cases hlm:ldg (ldT t) mm.1.toNat with
 | true =>
  rw[if_pos (.inr (.inr hlm))] at hstep0;refine zy ?_;exact⟨(k+1,s,L,v4,v5,vs),(by show t.r.marks.length-(k+1)<t.r.marks.length-k;omega),rfl,hE56,hk',hstep0.symm,hO6.tail.tail,hLs,hvl,rfl,rfl,rfl,rfl,rfl,rfl,rfl,rfl,rfl,trivial⟩
 | false =>
 rw[if_neg (by rw[hla,hlm];simp[hro])] at hstep0;obtain⟨hmb1,hmb2,hmb3,hmb4⟩:=ZR4 (ld:=ldT t) (foot:=ZDD t.r.gauge) (a:=ma) (m:=mm) (by omega) (by omega) hba.2.2 hbm.2.2;have hp1:=ZEb (ldT t) (mm.1.toNat+1);have hp2:=ZEb (ldT t) (ma.1.toNat+1);have hcm:=hcp (mm.1.toNat+1) (by omega) hE56;have hca:=hcp (ma.1.toNat+1) (by omega) hE56;have hfs:=ZTH (hT.ext hE56) hok;generalize hfo:ZDD t.r.gauge=foot at *;obtain⟨N,hN⟩:∃N,N=misN (ldT t) foot ma mm:=⟨_,rfl⟩;have hN2:(mm.2.2-ma.2.2)*foot-((picN (ldT t) (mm.1.toNat+1):Int)-(picN (ldT t) (ma.1.toNat+1):Int))=N:=by rw[hN];rfl
 rw[<-hN] at hstep0 hmb3 hmb4;refine zy ?_;refine ZAR hmix [0,1,0,4,15,0,32,127,0,256,768,1792,0,4096,12288,32512,65280,0,131072,393216,917504,0,2097152,6291456,16646144,33423360,67108608,134217727,268435455] [0,1,2,3,4,5,8,9,10,11,12,13,14,15,16,17,18,19,20,21,22,23,24,25,26] (some 6) [([7,27],(some 28)),([],none)] (by kernel_rfl) (by kernel_rfl) ?_;refine z_f ?_;refine z_l ?_;refine z_f ?_;refine z_l ?_;refine z_u ?_;refine z_m ?_;refine z_m ?_;refine z_q ?_;refine z_f ?_;refine z_l ?_;refine z_f ?_;refine z_l ?_;refine z_y ?_;refine ZAI rfl rfl rfl rfl rfl (fun _=>ZAN (k:=mm.1.toNat+1) Und.h Tsz.h rfl rfl (by omega) (by omega)) ?_;refine z_l ?_;refine z_m ?_;refine z_q ?_;refine z_f ?_;refine z_l ?_;refine z_f ?_;refine z_l ?_;refine z_y ?_;refine ZAI rfl rfl rfl rfl rfl (fun _=>ZAN (k:=ma.1.toNat+1) Und.h Tsz.h rfl rfl (by omega) (by omega)) ?_;refine z_l ?_;refine z_u ?_
 refine ZAM [5] (by kernel_rfl) rfl (ZAA rfl) rfl nb rfl (ZCV rfl rfl rfl rfl rfl Bod.h hfs ?_);refine ZAI rfl rfl rfl rfl rfl (fun _=>ZTu rfl rfl (by omega) (by omega)) ?_;refine z_u ?_;refine ZAM [0,1,2,3,4,5,6,7,8,9,10,11,12,13,14,15,16,17,18,19,20,21,22,23,24,25,26,27] (by kernel_rfl) rfl (by refine t_u 26 ?_;refine t_l 25 ?_;refine ZAQ (i:=24) rfl rfl rfl rfl rfl (fun _=>ZAN (k:=ma.1.toNat+1) Und.h Tsz.h rfl rfl (by omega) (by omega)) rfl ?_;refine t_y 23 ?_;refine t_l 22 ?_;refine t_f 21 ?_;refine t_l 20 ?_;refine t_f 19 ?_;refine t_q 18 ?_;refine t_m 17 ?_;refine t_l 16 ?_;refine ZAQ (i:=15) rfl rfl rfl rfl rfl (fun _=>ZAN (k:=mm.1.toNat+1) Und.h Tsz.h rfl rfl (by omega) (by omega)) rfl ?_;refine t_y 14 ?_;refine t_l 13 ?_;refine t_f 12 ?_;refine t_l 11 ?_;refine t_f 10 ?_;refine t_q 9 ?_;refine t_m 8 ?_;refine t_u 4 ?_;refine t_l 3 ?_;refine t_f 2 ?_;refine t_l 1 ?_;refine t_f 0 ?_;exact ZAA rfl) rfl nb rfl (ZBm rfl rfl (ZAY rfl) ?_)
 refine ZAc (ZAA rfl) nb' ?_;rw[hN2];have hbr:br≠b9/\br≠b10:=by
  have q1:=(List.pairwise_cons.1 hO6.ap).1 (ceI br (s.rest.flatMap rowG++vs) gapT op) (by simp) b10 rfl;have q2:=(List.pairwise_cons.1 hO6.tail.ap).1 (ceI br (s.rest.flatMap rowG++vs) gapT op) (by simp) b9 rfl;exact⟨fun e=>q2 e.symm,fun e=>q1 e.symm⟩
 have hpr:∀{h'} (G':List Gp),h'.get b10=some (.cells (rowM ma) 77 false)->h'.get b9=some (.cells (rowM mm) 77 false)->ZFH h' 96 [.pointer (some ⟨b10,0,none⟩),.pointer (some ⟨b9,0,none⟩)] G' (betw ma mm):=fun {h'} G' q1 q2=>⟨Bod.h,fun h1 hE1 x _=>ZO6 (hE1.get q1) (hE1.get q2)⟩;refine ZBg fun hW6'=>?_;refine zy ?_;refine ZAH rfl rfl Zr.h Tsz.h rfl (fun _=>rfl) rfl rfl rfl fun h7 hE7 hW7 hg7 hn7=>?_;have hO7:=hO6.newCe hW6 hE56.2.1 hE7 hg7 (Nat.le_refl _);have hE67:=hE56.trans hE7;generalize h6.nx=b12 at *;have hG6:l.filter (betw ma mm)=l.filter (betw ma mm):=rfl;refine zy ?_;refine ZAS (fun (st:Nat×Value) m ds h'=>ds=[]/\Ext h h'/\st.1<=l.length/\Own h h' (slI h st.2 gapT 4 (((l.take st.1).filter (betw ma mm)).flatMap rowG) ((l.take st.1).filter (betw ma mm)).length::ceI b12 [st.2,i64 N,i64 N] grpT false::ceI b10 (rowM ma) 77 false::ceI b9 (rowM mm) 77 false::grX h br op s L v4 v5 vs)/\AllK m [(0,.pointer (some ⟨bt,0,none⟩)),(1,.slice al l.length cl),(4,v4),(5,v5),(6,i64 s.left),(7,.slice (some ⟨br,0,sp⟩) s.rest.length l.length),(8,i64 (k:Nat)),(11,i64 N),(12,.func (.func 96) ⟨[]⟩ ⟨[.pointer (some ⟨b10,0,none⟩),.pointer (some ⟨b9,0,none⟩)]⟩),(13,.pointer (some ⟨b12,0,none⟩)),(37,.slice (some ⟨b,o,oa⟩) t.r.marks.length cm),(38,i64 t.r.marks.length),(39,i64 (k:Nat)),(106,.slice al l.length cl),(107,i64 l.length),(108,i64 (st.1:Nat))]) (fun st=>l.length-st.1) (0,.slice none 0 0) ?_ ?_
 ·refine⟨rfl,hE67,Nat.zero_le _,?_,rfl,rfl,rfl,rfl,rfl,rfl,rfl,rfl,rfl,rfl,rfl,rfl,rfl,rfl,rfl,rfl,trivial⟩
  exact hO7.nilSl gapT 4
 clear hO7 hE7 hW7 hg7 hn7 hO6 g96 hg6 hgt6 g9 hgt5 hE67 hE56 hE45 hE5 hW5 hW6 hgt3 hcm hca hfs;rintro⟨q,vg⟩ m ds h8 ⟨rfl,hE8,hq,hO8,hall⟩;refine Wc.le (ZBg fun hW8=>?_) (Le.kn hall);clear hall;simp only at hq hO8 ⊢;have g12:h8.get b12=some (.cells [vg,i64 N,i64 N] grpT false):=hO8.p2;refine zy ?_;refine zC (ZAx rfl rfl) (fun hlq=>?_) (fun hlq=>?_)
 ·have hq':q<l.length:=by omega
  obtain⟨b2,o2,oa2,eal,row2,hr2,hx2⟩:=hl.1 q hq';have htk:l.take (q+1)=l.take q++[l[q]]:=by rw[List.take_add_one,List.getElem?_eq_getElem hq'];rfl
  have hql:=List.length_filter_le (betw ma mm) (l.take q);rw[List.length_take] at hql;have hgN:((l.take (q+1)).filter (betw ma mm))=(l.take q).filter (betw ma mm)++[l[q]].filter (betw ma mm):=by rw[htk,List.filter_append]
  generalize l[q]=x at *;generalize hGq:(l.take q).filter (betw ma mm)=G at *;have hx':row2=rowG x:=hx2;subst hx';subst eal;have hrow8:=hE8.row hr2;refine zy ?_;refine zD (A_ix Und.h Tsz.h rfl rfl) ?_;refine ZAH rfl rfl Zr.h Tsz.h rfl (fun _=>rfl) rfl rfl rfl fun h9 hE9 hW9 hg9 hn9=>?_;have hO9:=hO8.ext hE9;have hE89:=hE8.trans hE9;have gb10:=hO9.p3;have gb9:=hO9.p4;refine zy ?_;refine zW ((hpr [x] gb10 gb9).2 h9 (Ext.refl _) x (List.mem_singleton.2 rfl)) fun h10 hE10=>?_;have k10:=hE10.get hg9;have hO10:=hO9.ext hE10;have hE810:=hE89.trans hE10;have k12:h10.get b12=some (.cells [vg,i64 N,i64 N] grpT false):=hO10.p2
  clear hO8 hO9 hE9 hE89 hg9 gb10 gb9 g12
  cases hb:betw ma mm x with
  | false =>
   rw[show [x].filter (betw ma mm)=[] by simp[hb],List.append_nil] at hgN;refine zy ?_;refine⟨(q+1,vg),(by show l.length-(q+1)<l.length-q;omega),rfl,hE810,hq',?_,rfl,rfl,rfl,rfl,rfl,rfl,rfl,rfl,rfl,rfl,rfl,rfl,rfl,rfl,rfl,rfl,trivial⟩;rw[hgN];exact hO10
  | true =>
   rw[show [x].filter (betw ma mm)=[x] by simp[hb]] at hgN;refine zy ?_;refine ZDi (cs:=rowG x) rfl rfl Und.h Tsz.h Zr.h rfl rfl rfl rfl (ZM6 _ _ _ _) fun h11 hE11 hW11 hg11 hn11=>?_;have k12':=hE11.get k12;refine zy ?_;refine ZBH (k:=1) (n:=G.length) (l:=rowG x) hw (hE810.trans hE11) rfl rfl rfl rfl rfl Und.h inferInstance rfl rfl (hO10.ext hE11) (ZAm Und.h (by intro k;simp) (ZAL hg11 rfl)) rfl rfl (by omega) (by omega) fun vg' h12 hW12 hO12 hE12=>?_;obtain⟨a12,c12,rfl⟩:=ZAj hO12;refine zy ?_;refine ZAU (r:=[.slice a12 (G.length+1) c12,i64 N,i64 N]) hw hE12 rfl Tsz.h rfl rfl hO12.up2 rfl rfl rfl fun h13 hW13 hO13 hE13=>?_
   refine zy ?_;refine⟨(q+1,.slice a12 (G.length+1) c12),(by show l.length-(q+1)<l.length-q;omega),rfl,hE13,hq',?_,rfl,rfl,rfl,rfl,rfl,rfl,rfl,rfl,rfl,rfl,rfl,rfl,rfl,rfl,rfl,rfl,trivial⟩;rw[hgN,List.flatMap_append,List.flatMap_singleton,List.length_append];exact hO13.up2
 have hql:q=l.length:=by omega
 rw[hql,List.take_length] at hO8;have hGl:=List.length_filter_le (betw ma mm) l;have hGb:∀x∈l.filter (betw ma mm),x.Bd:=fun x hx=>hbd x (List.mem_filter.1 hx).1;generalize l.filter (betw ma mm)=G at *;obtain⟨ag,hvg,hTG⟩:=ZTv (show ZAE _ _ _ _ _ _ _ from hO8.p1);subst hvg;have gb10:=hO8.p3;have gb9:=hO8.p4;refine zy ?_;refine zW (ZIz (lo:=N) (hi:=N) (p:=betw ma mm) hTG (hpr G gb10 gb9) hGb (by omega) (by omega) (by omega)) fun h9 hE9=>?_;have hO9:=hO8.ext hE9;have hE89:=hE8.trans hE9;refine ZA4 fun hW9=>?_;refine zy ?_;refine ZAH rfl rfl Zr.h Tsz.h rfl (fun _=>rfl) rfl rfl rfl fun h10 hE10 hW10 hg10 hn10=>?_
 have hO10:=hO9.ext hE10;have hE810:=hE89.trans hE10;have k12:h10.get b12=some (.cells [.slice ag G.length G.length,i64 N,i64 N] grpT false):=hO10.p2;clear hO8 hO9 hE9 hE89 hE10 hg10 gb10 gb9 g12 hE8
 cases hst:(ZD4 G N N (betw ma mm)).2 with
 | false =>
  rw[if_pos hst] at hstep0;refine zy ?_;refine ZDi (cs:=[i64 (k:Nat)]) rfl rfl Und.h Tsz.h Zr.h rfl rfl rfl rfl rfl fun h11 hE11 hW11 hg11 hn11=>?_;refine zy ?_;refine ZBH (k:=1) (n:=s.wrong.length) (l:=[i64 (k:Nat)]) hw (hE810.trans hE11) rfl rfl rfl rfl rfl Und.h inferInstance rfl rfl (hO10.tail.tail.tail.tail.ext hE11).up3 (ZAm Und.h (by intro k;simp) (ZAL hg11 rfl)) rfl rfl (by omega) (by omega) fun v5' h12 hW12 hO12 hE12=>?_;refine zy ?_;refine⟨(k+1,⟨s.all,s.rest,s.wrong++[(k:Int)],s.left⟩,L,v4,v5',vs),(by show t.r.marks.length-(k+1)<t.r.marks.length-k;omega),rfl,hE12,hk',hstep0.symm,?_,hLs,hvl,rfl,rfl,rfl,rfl,rfl,rfl,rfl,rfl,rfl,trivial⟩
  have q:=hO12.dn3
  show Own h h12 ([slI h v4 grpT 3 (L.flatMap ZDx) L.length,ceI br (s.rest.flatMap rowG++vs) gapT op,slI h v5' 3 1 ((s.wrong++[(k:Int)]).map i64) (s.wrong++[(k:Int)]).length]++grI h L)
  rw[List.map_append,List.length_append];exact q
 | true =>
  rw[if_neg (by rw[hst];decide)] at hstep0;refine zy ?_;refine ZDi (cs:=ZDx (.slice ag G.length G.length,⟨G,N,N⟩)) rfl rfl Und.h Tsz.h Zr.h rfl rfl rfl rfl (ZSF _ _ _) fun h11 hE11 hW11 hg11 hn11=>?_;refine zy ?_;refine ZBH (k:=1) (n:=L.length) (l:=ZDx (.slice ag G.length G.length,⟨G,N,N⟩)) hw (hE810.trans hE11) rfl rfl rfl rfl rfl Und.h inferInstance rfl rfl ((Own.mid (A:=[_,_,_,_]) hO10).ext hE11) (ZAm Und.h (by intro k;simp) (ZAL hg11 rfl)) rfl rfl (by omega) (by omega) fun v4' h12 hW12 hO12 hE12=>?_;have hgbr:h12.get br=some (.cells (s.rest.flatMap rowG++vs) gapT op):=hO12.has (ceI br (s.rest.flatMap rowG++vs) gapT op) (by simp)
  have hgb10:h12.get b10=some (.cells (rowM ma) 77 false):=hO12.p4;have hgb9:h12.get b9=some (.cells (rowM mm) 77 false):=hO12.tail.p4;refine zy ?_;refine zR (ZNk (p:=betw ma mm) hgbr hsp (by omega) hvl Bod.h (fun h1 hX x hx=>ZO6 (hX.get (fun e=>hbr.2 e.symm) hgb10) (hX.get (fun e=>hbr.1 e.symm) hgb9)) (by omega)) ?_;rintro _ h13 ⟨rfl,hcc,hX13,vs',hgr13,hvl'⟩;refine zy ?_;refine⟨(k+1,⟨s.all++[⟨G,N,N⟩],s.rest.filter (fun x=>!betw ma mm x),s.wrong,s.left+N⟩,L++[(.slice ag G.length G.length,⟨G,N,N⟩)],v4',v5,vs'),(by show t.r.marks.length-(k+1)<t.r.marks.length-k;omega),rfl,?_,hk',hstep0.symm,?_,?_,hvl',rfl,rfl,rfl,rfl,rfl,rfl,rfl,rfl,rfl,trivial⟩
  ·exact hX13.ext hE12 hw fun c hc=>by rw[hc];exact hb0
  ·have q1:=(Own.shufT (l:=[_,_,_,_,_,_]) hO12 (ceI 0 [] 0 false) [0,1,2,3,4,5] [5,0,1,2,3,4] (by decide) rfl)
   have q2:Own h h13 (ceI br ((s.rest.filter fun x=>!betw ma mm x).flatMap rowG++vs') gapT op::_):=Own.put q1 hW12 hE12.2.1 hX13 hgr13 fun c hc=>.inl hc
   have q3:=q2.sub (l':=[_,_,_]++(slI h v5 3 1 (s.wrong.map i64) s.wrong.length::grI h L)) (by
    refine List.Sublist.cons_cons _ (List.Sublist.cons_cons _ (List.Sublist.cons_cons _ (List.Sublist.cons _ (List.Sublist.cons _ (List.Sublist.cons _ (List.Sublist.refl _))))))) 
   have q4:=Own.shufT (l:=[_,_,_,_]) (R:=grI h L) q3 (ceI 0 [] 0 false) [0,1,2,3] [1,0,3,2] (by decide) rfl
   show Own h h13 ([slI h v4' grpT 3 ((L++[((.slice ag G.length G.length:Value),(⟨G,N,N⟩:Gr))]).flatMap ZDx) (L++[((.slice ag G.length G.length:Value),(⟨G,N,N⟩:Gr))]).length,ceI br ((s.rest.filter fun x=>!betw ma mm x).flatMap rowG++vs') gapT op,slI h v5 3 1 (s.wrong.map i64) s.wrong.length]++grI h (L++[(.slice ag G.length G.length,⟨G,N,N⟩)]))
   rw[ZRQ,List.flatMap_append,List.flatMap_singleton,List.length_append];exact q4.perm (List.Perm.append_left [_,_,_] (List.perm_append_singleton _ _).symm)
  ·show (L++[_]).map Prod.snd=s.all++[_]
   rw[List.map_append,hLs];rfl
abbrev xUL0:List Nat:=[0,1,2,3,4,5,6,7,8,9,10,11,12,13,14,15]
theorem ZLz {t:Tk}(hok:t.Ok):(∀g∈(gpT t).1,g.Bd)/\0<(gpT t).1.length/\(gpT t).1.length<=200001/\(gpT t).2.length<=12000000:=by
 obtain⟨h1,h2,h3,h4⟩:=ZOj (L:=pcT t) (n:=t.r.frames) (ZIu hok);have hp:=ZI9 hok;have hs:=ZCu t.notes;have hn:=hok.nlen;refine⟨h1,h2,Nat.le_trans h3 (by omega),Nat.le_trans h4 ?_⟩;exact Nat.le_trans (Nat.mul_le_mul hp (show (ZAO t.notes).length<=60 by omega)) (by decide)
theorem ZJu {t:Tk}(hok:t.Ok):(∀g∈(grT t).1,g.Bd)/\0<(grT t).1.length/\(grT t).1.length<=61/\(grT t).2.length<=60:=by
 obtain⟨h1,h2,h3,h4⟩:=ZLz hok;obtain⟨n,hn⟩:∃n:Nat,t.r.frames=n:=⟨t.r.frames.toNat,by have:=hok.r.frames;omega⟩;have hfr:=hok.r.frames;have hld:=ZL6 hn;have hfoot:=ZFq hok.r.gauge;have hmk:=hok.r.marks;have hw:=hok.w;have hwh:=hok.whi;exact ZN6 (by omega) (by omega) (fun m hm=>(hmk m hm).2.2) hok.r.mlen h1 h3 (by omega) (by omega)
theorem ZRP {h:Heap}(G:List Gp):ZFH h 70 [] G (fun _=>true):=⟨Bod.h,fun h1 hE x _=>by
 refine ZA0 fun hw=>?_;refine ZAF Tryz.func70 rfl (by rw[Tryz.ntmps70];rfl) ?_;show Wc Tryz.prog ⟨70,3,none⟩ _ _ _ _ _;refine zy ?_;refine ZAv rfl rfl rfl fun h2 hE2 hW2 hg2 hn2=>?_;refine zy ?_;exact ZAB (ZAC rfl ⟨rfl,hE2⟩)⟩
theorem ZRc {h:Heap}{bf:Nat}{f:Int}(hg:h.get bf=some (.cells [i64 f] 3 false))(G:List Gp):ZFH h 74 [.pointer (some ⟨bf,0,none⟩)] G (befF f):=⟨Bod.h,fun h1 hE x _=>by
 refine ZA0 fun hw=>?_;have k0:=hE.get hg;refine ZAF Tryz.func74 rfl (by rw[Tryz.ntmps74];rfl) ?_;show Wc Tryz.prog ⟨74,8,none⟩ _ _ _ _ _;refine zy ?_;refine ZAv rfl rfl rfl fun h2 hE2 hW2 hg2 hn2=>?_;have k1:=hE2.get k0;refine zy ?_;refine zD (ZO9 rfl rfl) ?_;exact ZAB (ZAC rfl ⟨rfl,hE2⟩)⟩
noncomputable def nwT (t:Tk):Bool:=(grT t).1.all ZNH
theorem ZID {h:Heap}{bt:Nat}{t:Tk}{d:Ads}(hT:TbAt h bt t d)(hok:t.Ok) :
  Sv Tryz.prog 37 [.pointer (some ⟨bt,0,none⟩)] h (RetP fun v h'=>Ext h h'/\∃a1 c1 v2 v3,v=.tuple ⟨[.slice a1 (grT t).1.length c1,v2,v3,.bool (nwT t)]⟩/\ZAV 3 GrAt h' a1 (grT t).1/\ZAE h h' v2 strT 4 ((gpT t).2.flatMap ZBp) (gpT t).2.length/\ZAE h h' v3 3 1 ((grT t).2.map i64) (grT t).2.length/\Foot h h' (fun k=>ZAV 3 GrAt k a1 (grT t).1)):=by
 refine ZA0 fun hw=>?_;obtain⟨p1,p2,p3,p4⟩:=ZLz hok;obtain⟨q1,q2,q3,q4⟩:=ZJu hok;refine ZAF Tryz.func37 rfl (by rw[Tryz.ntmps37];rfl) ?_;show Wc Tryz.prog ⟨37,42,none⟩ _ _ _ _ _;refine zy ?_;refine zR (ZTZ hT hok) ?_;rintro _ h1 ⟨hE1,v1,v2,rfl,hO1⟩;obtain⟨al,rfl,hS1,-⟩:=ZAE.rowsAt (enc:=rowG) (k:=4) (fun _=>rfl) (show ZAE _ _ _ _ _ _ _ from hO1.p1) rfl;have hF2:ZAE h h1 v2 strT 4 ((gpT t).2.flatMap ZBp) (gpT t).2.length:=hO1.p2;refine zy ?_;refine zR (ZNP (hT.ext hE1) hok hS1 p1 p3 p2) ?_;rintro _ h2 ⟨hE2,a2,c2,v3,rfl,hR2,hF3,hFo⟩;replace hFo:=hFo.base hE1.2.1;replace hF3:=hF3.base hE1.2.1;replace hF2:=hF2.ext hE2
 replace hE2:=hE1.trans hE2;clear hO1 hS1;refine zy ?_;refine ZAS (fun (k:Nat) m ds h'=>ds=[]/\Ext h2 h'/\k<=(grT t).1.length/\((grT t).1.take k).all ZNH=true/\AllK m [(2,.slice a2 (grT t).1.length c2),(3,v2),(4,v3),(22,.slice a2 (grT t).1.length c2),(23,i64 (grT t).1.length),(24,i64 (k:Nat))]) (fun k=>(grT t).1.length-k) 0 ?_ ?_
 ·exact⟨rfl,Ext.refl _,Nat.zero_le _,rfl,rfl,rfl,rfl,rfl,rfl,rfl,trivial⟩
 rintro k m ds h3 ⟨rfl,hE3,hk,hal,hall⟩;refine Wc.le (ZBg fun hW3=>?_) (Le.kn hall);clear hall;refine zy ?_;refine zC (ZAx rfl rfl) (fun hlt=>?_) (fun hlt=>?_);rotate_left
 ·have hke:k=(grT t).1.length:=by omega
  rw[hke,List.take_length] at hal;refine zy ?_;refine ZAB (ZAC rfl ⟨hE2.trans hE3,a2,c2,v2,v3,?_,ZAV.ext (R:=GrAt) (fun hr he=>hr.ext he) hR2 hE3,hF2.ext hE3,hF3.ext hE3,hFo.ext hE3⟩)
  show _=Value.tuple ⟨[_,_,_,.bool ((grT t).1.all ZNH)]⟩
  rw[hal];rfl
 have hk':k<(grT t).1.length:=by omega
 obtain⟨b,o,oa,ea,row,hrow,a3,c3,er,hTG⟩:=hR2 k hk';have hgb:=q1 _ (List.getElem_mem hk');have htk:(grT t).1.take (k+1)=(grT t).1.take k++[(grT t).1[k]]:=by rw[List.take_add_one,List.getElem?_eq_getElem hk'];rfl
 have hme:=List.getElem_mem hk';generalize (grT t).1[k]=g at *;subst er;subst ea;have hrow3:=hE3.row hrow;refine zy ?_;refine zD (A_ix Und.h Tsz.h rfl rfl) ?_;refine ZAH rfl rfl Zr.h Tsz.h rfl (fun _=>rfl) rfl rfl rfl fun h4 hE4 hW4 hg4 hn4=>?_;have hE34:=hE3.trans hE4;refine zy ?_;refine zW (ZIz (lo:=g.lo) (hi:=g.hi) (p:=fun _=>true) (hTG.ext' hE34) (ZRP _) hgb.1 hgb.2.1 hgb.2.2.1 hgb.2.2.2) fun h5 hE5=>?_;have hE35:=hE34.trans hE5;refine ZA4 fun hW5=>?_;refine zy ?_;refine ZAH rfl rfl Zr.h Tsz.h rfl (fun _=>rfl) rfl rfl rfl fun h6 hE6 hW6 hg6 hn6=>?_;have hE36:=hE35.trans hE6
 cases hb:(ZD4 g.gaps g.lo g.hi (fun _=>true)).2 with
 | true =>
  refine zy ?_;refine⟨k+1,(by show (grT t).1.length-(k+1)<(grT t).1.length-k;omega),rfl,hE36,hk',?_,rfl,rfl,rfl,rfl,rfl,rfl,trivial⟩;rw[htk,List.all_append,hal]
  show ([g].all ZNH)=true
  simp only[List.all_cons,List.all_nil,Bool.and_true];exact hb
 | false =>
  refine zy ?_;refine ZAB (ZAC rfl ⟨hE2.trans hE36,_,c2,v2,v3,?_,ZAV.ext (R:=GrAt) (fun hr he=>hr.ext he) hR2 hE36,hF2.ext hE36,hF3.ext hE36,hFo.ext hE36⟩);have:nwT t=false:=by
   unfold nwT;rw[List.all_eq_false];exact⟨g,hme,by unfold ZNH;rw[hb];decide⟩
  rw[this];rfl
theorem ZJa {h:Heap}{bt:Nat}{t:Tk}{d:Ads}(hT:TbAt h bt t d)(hok:t.Ok) :
  Sv Tryz.prog 37 [.pointer (some ⟨bt,0,none⟩)] h (RetP fun v h'=>Ext h h'/\∃a1 c1 v2 v3,v=.tuple ⟨[.slice a1 (grT t).1.length c1,v2,v3,.bool (nwT t)]⟩/\ZAV 3 GrAt h' a1 (grT t).1/\ZAE h h' v2 strT 4 ((gpT t).2.flatMap ZBp) (gpT t).2.length/\ZAE h h' v3 3 1 ((grT t).2.map i64) (grT t).2.length) :=
 (ZID hT hok).ret fun v h' ⟨hE,a1,c1,v2,v3,e,hR,h2,h3,_⟩=>⟨hE,a1,c1,v2,v3,e,hR,h2,h3⟩
theorem ZL8 {h:Heap}{bt:Nat}{t:Tk}{d:Ads}{f:Int}{l:List Gr}{a:Option Addr}{c:Nat}(hT:TbAt h bt t d)(hok:t.Ok)(hf:0<=f/\f<t.r.frames)(hR:ZAV 3 GrAt h a l)(hbd:∀g∈l,g.Bd)(hlen:l.length<=61) :
  Sv Tryz.prog 44 [.pointer (some ⟨bt,0,none⟩),.slice a l.length c,i64 f] h (RetP fun v h'=>Ext h h'/\v=ZEw (ZA6 (ldT t) l f).1 (ZA6 (ldT t) l f).2):=by
 refine ZA0 fun hw=>?_;obtain⟨am,cm,as',cs,aL,cL,an,cn⟩:=d;obtain⟨n,hn⟩:∃n:Nat,t.r.frames=n:=⟨t.r.frames.toNat,by have:=hok.r.frames;omega⟩;have hn':t.r.frames.toNat=n:=by omega
 have hfr:=hok.r.frames;have hld:=ZL6 hn;obtain⟨aS,cS,bp,hgt,-,hgp,hRl⟩:=id hT;rw[hn'] at hgt;have hcp:∀f:Nat,f<=n->∀{h'},Ext h h'->ZAi h' bp (0+f*1)=some (i64 (picN (ldT t) f:Nat)):=fun f hf {h'} hE=>hE.cell (ZAP hgp (by rw[ZAq,Nat.zero_add,Nat.mul_one,ZGQ (by omega)]));have hpl:∀k,((l.take k).length:Int)<=61:=fun k=>by rw[List.length_take];omega
 have hpb:=fun k=>ZOC (ld:=ldT t) (f:=f) (l:=l.take k) (by omega) fun g hg=>hbd g (List.mem_of_mem_take hg);refine ZAF Tryz.func44 rfl (by rw[Tryz.ntmps44];rfl) ?_;show Wc Tryz.prog ⟨44,43,none⟩ _ _ _ _ _;refine zy ?_;refine ZAv rfl rfl rfl fun h1 hE1 hW1 hg1 hn1=>?_;have hO1:=(Own.nil h h).newCe hw (Nat.le_refl _) hE1 hg1 (Nat.le_refl _);generalize h.nx=b5 at hO1 hg1 ⊢;refine zy ?_;refine ZAa rfl rfl Zr.h fun h2 hE2 hW2 hg2 hn2=>?_;have hO2:=hO1.newCe hW1 hE1.2.1 hE2 hg2 (Nat.le_refl _);replace hE2:=hE1.trans hE2;generalize h1.nx=b6 at hO2 hg2 ⊢;have k5:h2.get b5=some (.cells [i64 f] 3 false):=hO2.p2
 have hgt2:=hE2.get hgt;have hc2:=hcp f.toNat (by omega) hE2;refine zy ?_;refine ZAR hmix [0,1,3,7,0,31,63,0,128,384,896,0,3968,8064,16383,0,65535] xUL0 (some 16) [([],none)] (by kernel_rfl) (by kernel_rfl) ?_;refine z_m ?_;refine z_q ?_;refine z_f ?_;refine z_l ?_;refine z_l ?_;refine ZAI rfl rfl rfl rfl rfl (fun _=>ZAN (k:=f.toNat) Und.h Tsz.h rfl rfl (by omega) (by omega)) ?_;refine z_l ?_;refine z_m ?_;refine z_q ?_;refine z_f ?_;refine z_l ?_;refine z_l ?_;refine ZAI rfl rfl rfl rfl rfl (fun _=>ZAN (k:=f.toNat) Und.h Tsz.h rfl rfl (by omega) (by omega)) ?_;refine z_l ?_;refine z_b ?_;refine ZBS (nk:=.ptr) rfl rfl rfl rfl rfl (fun _ _ _=>ZG6 Zr.h) ?_
 refine ZAM (h1:=(Heap.add h2 _)) xUL0 (by kernel_rfl) rfl (ZAA rfl) rfl rfl rfl (ZAT (ZCW rfl rfl Tsz.h rfl rfl Heap.get_add_same rfl rfl rfl (fun h3 hU3 hW3=>?_)));have hE3a:Ext h2 h3:=hU3.ext (Ext.add hW2 _) hW2 (Nat.le_refl _);have hg3:=hU3.at';have hO3:=hO2.newCe hW2 hE2.2.1 hE3a hg3 (Nat.le_refl _);have hE3:=hE2.trans hE3a;clear hU3 hE3a hg3 hO1 hO2 hgt2 hc2;generalize h2.nx=b7 at *;refine ZAc (ZAA rfl) rfl ?_;refine zy ?_;refine ZAS (fun (k:Nat) m ds h'=>ds=[]/\Ext h h'/\k<=l.length/\Own h h' [ceI b7 [i64 (ZA6 (ldT t) (l.take k) f).1,i64 (ZA6 (ldT t) (l.take k) f).2] totT false,ceI b6 [i64 0,i64 0] 23 false,ceI b5 [i64 f] 3 false]/\AllK m [(5,.pointer (some ⟨b5,0,none⟩)),(6,.pointer (some ⟨b6,0,none⟩)),(7,.pointer (some ⟨b7,0,none⟩)),(27,.slice a l.length c),(28,i64 l.length),(29,i64 (k:Nat))]) (fun k=>l.length-k) 0 ?_ ?_
 ·exact⟨rfl,hE3,Nat.zero_le _,hO3,rfl,rfl,rfl,rfl,rfl,rfl,trivial⟩
 clear hO3 hE3;rintro k m ds h4 ⟨rfl,hE4,hk,hO4,hall⟩;refine Wc.le (ZBg fun hW4=>?_) (Le.kn hall);clear hall;have hplk:=hpl k;have hpbk:=hpb k;refine zy ?_;refine zC (ZAx rfl rfl) (fun hlt=>?_) (fun hlt=>?_);rotate_left
 ·have hke:k=l.length:=by omega
  rw[hke,List.take_length] at hO4;have g7:h4.get b7=some (.cells [i64 (ZA6 (ldT t) l f).1,i64 (ZA6 (ldT t) l f).2] totT false):=hO4.p1;refine zy ?_;refine ZAU (r:=[i64 (ZA6 (ldT t) l f).1,i64 (ZA6 (ldT t) l f).2]) hw hE4 rfl Tsz.h rfl rfl hO4.up2 rfl rfl rfl fun h6 hW6 hO6 hE6=>?_;have g8:=hO6.p1;refine zy ?_;exact ZAB (ZAC (ZAW rfl (ZAt RowC.h (ZAL g8 rfl)) rfl) ⟨hE6,rfl⟩)
 have hk':k<l.length:=by omega
 obtain⟨b,o,oa,ea,row,hrow,a3,c3,er,hTG⟩:=hR k hk';have hgb:=hbd _ (List.getElem_mem hk');have htk:l.take (k+1)=l.take k++[l[k]]:=by rw[List.take_add_one,List.getElem?_eq_getElem hk'];rfl
 generalize l[k]=g at *;have hst:=ZHI (ldT t) (l.take k) g f;rw[<-htk] at hst;have hsb:=ZOe (befF f) hgb.1 hgb.2.1 hgb.2.2.1 hgb.2.2.2;unfold Sb at hsb;subst er;subst ea;have hrow4:=hE4.row hrow;refine zy ?_;refine zD (A_ix Und.h Tsz.h rfl rfl) ?_;refine ZAH rfl rfl Zr.h Tsz.h rfl (fun _=>rfl) rfl rfl rfl fun h5 hE5 hW5 hg5 hn5=>?_;have hO5:=hO4.ext hE5;have hE45:=hE4.trans hE5;refine zy ?_;refine zW (ZIz (lo:=g.lo) (hi:=g.hi) (p:=befF f) (hTG.ext' hE45) (ZRc hO5.p3 _) hgb.1 hgb.2.1 hgb.2.2.1 hgb.2.2.2) fun h6 hE6=>?_;have hO6:=hO5.ext hE6;have hE46:=hE45.trans hE6;refine ZA4 fun hW6=>?_;refine zy ?_
 refine ZAH rfl rfl Zr.h Tsz.h rfl (fun _=>rfl) rfl rfl rfl fun h7 hE7 hW7 hg7 hn7=>?_;have hO7:=hO6.ext hE7;have hE47:=hE46.trans hE7;clear hO4 hO5 hO6;generalize (ZD4 g.gaps g.lo g.hi (befF f)).1=s at *;generalize ZA6 (ldT t) (l.take k) f=p at *;refine zy ?_;refine zR (ZPe (p:=p.1) (q:=p.2) (c:=s.1) (d:=s.2) hw hE47 hO7 (by omega) (by omega) (by omega) (by omega)) ?_;rintro _ h8 ⟨rfl,hO8,hE8⟩;refine zy ?_;refine⟨k+1,(by show l.length-(k+1)<l.length-k;omega),rfl,hE8,hk',?_,rfl,rfl,rfl,rfl,rfl,rfl,trivial⟩;rw[hst];exact hO8
noncomputable def ZCp (t:Tk)(f:Int):(Int×Int)×Int :=
 if ZAl t≠0 then ((0,0),ZAl t)
 else if f<0\/t.r.frames-1<f then ((0,0),7)
 else if ldg (ldT t) f.toNat=true then ((0,0),4)
 else if nwT t=false then ((0,0),9)
 else (ZA6 (ldT t) (grT t).1 f,0)
theorem ZFW {t:Tk}{d:Ads}{f:Int}{h:Heap}(hF:t.Fit)(hR:TkAt h t d) :
  Sv Tryz.prog 14 [.agg ⟨ZD9 t d⟩,i64 f] h (RetP fun v h'=>Ext h h'/\v=.tuple ⟨[ZEw (ZCp t f).1.1 (ZCp t f).1.2,i64 (ZCp t f).2]⟩):=by
 refine ZA0 fun hw=>?_;refine ZAF Tryz.func14 rfl (by rw[Tryz.ntmps14];rfl) ?_;show Wc Tryz.prog ⟨14,49,none⟩ _ _ _ _ _;refine zy ?_;refine ZAv rfl rfl rfl fun h1 hE1 hW1 hg1 hn1=>?_;refine zy ?_;refine ZAa rfl rfl Zr.h fun h2 hE2 hW2 hg2 hn2=>?_;have hO2:=(Own.nil h h1).newCe hW1 hE1.2.1 hE2 hg2 (Nat.le_refl _);have k1:=hE2.get hg1;replace hE2:=hE1.trans hE2;generalize h1.nx=b4 at *;refine zy ?_;refine zR (ZNy hF (hR.ext hE2)) ?_;rintro _ h3 ⟨hE3,hC⟩;have hO3:=hO2.ext hE3;have k3:=hE3.get k1;replace hE3:=hE2.trans hE3;clear hO2 k1 hg1 hg2 hE2 hE1
 rcases hC with ⟨hne,rfl⟩|⟨hz,bt,rfl,hbt,hT⟩
 ·refine zy ?_
  refine zD (A_tt hne (ZA3 rfl rfl)) ?_;refine ZAU (r:=[i64 0,i64 0]) hw hE3 rfl Tsz.h rfl rfl hO3 rfl rfl rfl fun g1 hw1 hO1 hE1'=>?_;have g8:=hO1.p1;refine zy ?_;refine ZAB (ZAC (ZAW rfl (ZAt RowC.h (ZAL g8 rfl)) (ZCU rfl rfl)) ⟨hE1',?_⟩);unfold ZCp;rw[if_pos hne];rfl
 have hok:=ZCQ hz;have hfr:=hok.r.frames;refine zy ?_;refine zE (A_ff (fun q=>q rfl) (ZA3 rfl rfl)) ?_;refine ZA4 fun hw3=>?_;refine zy ?_
 by_cases hout:f<0\/t.r.frames-1<f
 ·refine zV (ZBJ (a:=f) (lo:=0) (hi:=t.r.frames-1) (decide_eq_true hout) _) ?_
  refine ZAU (r:=[i64 0,i64 0]) hw hE3 rfl Tsz.h rfl rfl hO3 rfl rfl rfl fun g1 hw1 hO1 hE1'=>?_;have g8:=hO1.p1;refine zy ?_;refine ZAB (ZAC (ZAW rfl (ZAt RowC.h (ZAL g8 rfl)) (ZCU rfl rfl)) ⟨hE1',?_⟩);unfold ZCp;rw[if_neg (fun q=>q hz),if_pos hout];rfl
 refine zU (ZBJ (a:=f) (lo:=0) (hi:=t.r.frames-1) (decide_eq_false hout) _) ?_;obtain⟨n,hn⟩:∃n:Nat,t.r.frames=n:=⟨t.r.frames.toNat,by omega⟩;refine zy ?_;refine zU (ZEM (f:=f.toNat) (x:=f) hT hn (by omega) (by omega) (by omega)) ?_
 cases hl:ldg (ldT t) f.toNat with
 | true =>
  refine zy ?_;refine ZAU (r:=[i64 0,i64 0]) hw hE3 rfl Tsz.h rfl rfl hO3 rfl rfl rfl fun g1 hw1 hO1 hE1'=>?_;have g8:=hO1.p1;refine zy ?_;refine ZAB (ZAC (ZAW rfl (ZAt RowC.h (ZAL g8 rfl)) (ZCU rfl rfl)) ⟨hE1',?_⟩);unfold ZCp;rw[if_neg (fun q=>q hz),if_neg hout,if_pos hl];rfl
 | false =>
 refine zy ?_;refine zR (ZJa hT hok) ?_;rintro _ h4 ⟨hE4,a1,c1,v2,v3,rfl,hR4,-,-⟩;have hO4:=hO3.ext hE4;have hT4:=hT.ext hE4;replace hE4:=hE3.trans hE4;obtain⟨q1,q2,q3,q4⟩:=ZJu hok
 cases hnw:nwT t with
 | false =>
  refine zy ?_;refine ZAU (r:=[i64 0,i64 0]) hw hE4 rfl Tsz.h rfl rfl hO4 rfl rfl rfl fun g1 hw1 hO1 hE1'=>?_;have g8:=hO1.p1;refine zy ?_;refine ZAB (ZAC (ZAW rfl (ZAt RowC.h (ZAL g8 rfl)) (ZCU rfl rfl)) ⟨hE1',?_⟩);unfold ZCp;rw[if_neg (fun q=>q hz),if_neg hout,if_neg (by rw[hl];decide),if_pos hnw];rfl
 | true =>
 refine zy ?_;refine zR (ZL8 (f:=f) hT4 hok (by omega) hR4 q1 q3) ?_;rintro _ h5 ⟨hE5,rfl⟩;have hO5:=hO4.ext hE5;replace hE5:=hE4.trans hE5;refine zy ?_;refine ZAU (r:=[i64 (ZA6 (ldT t) (grT t).1 f).1,i64 (ZA6 (ldT t) (grT t).1 f).2]) hw hE5 rfl Tsz.h rfl rfl hO5 rfl rfl rfl fun g1 hw1 hO1 hE1'=>?_;have g8:=hO1.p1;refine zy ?_;refine ZAB (ZAC (ZAW rfl (ZAt RowC.h (ZAL g8 rfl)) (ZCU rfl rfl)) ⟨hE1',?_⟩);unfold ZCp;rw[if_neg (fun q=>q hz),if_neg hout,if_neg (by rw[hl];decide),if_neg (by rw[hnw];decide)];rfl
theorem ZQy {h:Heap}{b:Nat}{y:Gp}{op:Bool}(hg:h.get b=some (.cells (rowG y) gapT op))(G:List Gp):ZFH h 39 [.pointer (some ⟨b,0,none⟩)] G (isF y.frame):=⟨Bod.h,fun h1 hE x _=>by
 refine ZA0 fun hw=>?_;have k0:=hE.get hg;refine ZAF Tryz.func39 rfl (by rw[Tryz.ntmps39];rfl) ?_;show Wc Tryz.prog ⟨39,9,none⟩ _ _ _ _ _;refine zy ?_;refine ZAv rfl rfl rfl fun h2 hE2 hW2 hg2 hn2=>?_;have k1:=hE2.get k0;refine zy ?_;refine zD (ZBA rfl rfl) ?_;exact ZAB (ZAC rfl ⟨rfl,hE2⟩)⟩
theorem ZSt {x y:Gp}(hx:0<=x.frame/\x.frame<=200000)(hy:0<=y.frame/\y.frame<=200000)(h:Heap):Sv Tryz.prog 41 [.agg ⟨rowG x⟩,.agg ⟨rowG y⟩] h (RetP fun v h'=>v=i64 (x.frame-y.frame)/\Ext h h'):=by
 refine ZA0 fun hw=>?_;refine ZAF Tryz.func41 rfl (by rw[Tryz.ntmps41];rfl) ?_;show Wc Tryz.prog ⟨41,10,none⟩ _ _ _ _ _;refine zy ?_;refine ZAv rfl rfl rfl fun h1 hE1 hW1 hg1 hn1=>?_;refine zy ?_;refine ZAv rfl rfl rfl fun h2 hE2 hW2 hg2 hn2=>?_;have k1:=hE2.get hg1;refine zy ?_;exact ZAB (ZAC rfl ⟨rfl,hE1.trans hE2⟩)
theorem ZT0 {t:Tk}(hok:t.Ok):(gpT t).1.Pairwise (fun a b=>a.frame<b.frame)/\∀x∈(gpT t).1,0<=x.frame/\x.frame<=200000:=by
 have hfr:=hok.r.frames;have h1:∀p∈pcT t,0<=p.frm/\p.frm<(t.r.frames.toNat:Nat):=ZNA (ldT t) (spT t) (n:=t.r.frames.toNat) (by omega);have hup:(pcT t).Pairwise (fun a b=>a.frm<b.frm):=ZOB (ldT t) (spT t) t.r.frames.toNat;refine⟨ZRZ hup fun p hp=>by have:=h1 p hp;omega,fun x hx=>?_⟩;obtain⟨-,h2⟩:=ZKC (ZAO t.notes) (pcT t) hup;unfold gpT ZHA at hx
 rcases List.mem_append.1 hx with q|q
 ·obtain⟨p,hp,e⟩:=h2 x q
  have:=h1 p hp;omega
 ·rw[List.mem_singleton] at q;subst q
  show 0<=t.r.frames/\t.r.frames<=200000
  omega
theorem ZLu {t:Tk}(hok:t.Ok):((grT t).1.flatMap Gr.gaps).Perm (gpT t).1:=ZK8 hok.r.up
noncomputable def ZED (t:Tk):List Gp×List Sk×List Int×Int :=
 if ZAl t≠0 then ([],[],[],ZAl t)
 else if nwT t=false then ([],(gpT t).2,(grT t).2,9)
 else (ZLe (ZCd (grT t).1),(gpT t).2,(grT t).2,0)
def SlR {α:Type}(enc:α->List Value)(k:Nat)(h:Heap)(v:Value)(l:List α):Prop:=∃a c,v=.slice a l.length c/\TabA enc k h a l
theorem ZAE.slR {α:Type}{enc:α->List Value}{k:Nat}(hk:∀x,(enc x).length=k){h0 h:Heap}{v:Value}{el:TypeId}{l:List α}(ho:ZAE h0 h v el k (l.flatMap enc) l.length):SlR enc k h v l:=by
 obtain⟨a,e,hS,-⟩:=ZAE.rowsAt hk ho rfl;exact⟨a,l.length,e,hS.1⟩
set_option maxHeartbeats 4000000 in
theorem ZIa {t:Tk}{d:Ads}{h:Heap}(hF:t.Fit)(hR:TkAt h t d) :
  Sv Tryz.prog 10 [.agg ⟨ZD9 t d⟩] h (RetP fun v h'=>Ext h h'/\∃v1 v2 v3,v=.tuple ⟨[v1,v2,v3,i64 (ZED t).2.2.2]⟩/\SlR rowG 4 h' v1 (ZED t).1/\SlR ZBp 4 h' v2 (ZED t).2.1/\ZAE h h' v3 3 1 ((ZED t).2.2.1.map i64) (ZED t).2.2.1.length):=by
 refine ZA0 fun hw=>?_;refine ZAF Tryz.func10 rfl (by rw[Tryz.ntmps10];rfl) ?_;show Wc Tryz.prog ⟨10,63,none⟩ _ _ _ _ _;refine zy ?_;refine ZAv rfl rfl rfl fun h1 hE1 hW1 hg1 hn1=>?_;refine zy ?_;refine zR (ZNy hF (hR.ext hE1)) ?_;rintro _ h2 ⟨hE2,⟨hne,rfl⟩|⟨hz,bt,rfl,hbt,hT⟩⟩
 ·refine zy ?_
  refine zD (A_tt hne (ZA3 rfl rfl)) ?_;unfold ZED;rw[if_pos hne];exact ZAB (ZAC rfl ⟨hE1.trans hE2,_,_,_,rfl,⟨none,0,rfl,fun i hi=>absurd hi (Nat.not_lt_zero _)⟩,⟨none,0,rfl,fun i hi=>absurd hi (Nat.not_lt_zero _)⟩,ZAE.nil _ _ _ _⟩)
 have hok:=ZCQ hz;replace hE2:=hE1.trans hE2;obtain⟨p1,p2,p3,p4⟩:=ZLz hok;obtain⟨q1,q2,q3,q4⟩:=ZJu hok;refine zy ?_;refine zE (A_ff (fun q=>q rfl) (ZA3 rfl rfl)) ?_;refine ZA4 fun hw2=>?_;refine zy ?_;refine zR (ZJa hT hok) ?_;rintro _ h3 ⟨hE3,a1,c1,v2,v3,rfl,hR3,hF2,hF3⟩;replace hF2:=hF2.base hE2.2.1;replace hF3:=hF3.base hE2.2.1;replace hE3:=hE2.trans hE3;unfold ZED;rw[if_neg (fun q=>q hz)]
 cases hnw:nwT t with
 | false =>
  rw[if_pos rfl];refine zy ?_;exact ZAB (ZAC rfl ⟨hE3,_,_,_,rfl,⟨none,0,rfl,fun i hi=>absurd hi (Nat.not_lt_zero _)⟩,ZAE.slR (enc:=ZBp) (k:=4) (fun _=>rfl) hF2,hF3⟩)
 | true =>
 rw[if_neg (by decide)];clear hg1 hE1 hW1;have hperm:=ZLu hok;obtain⟨hup,hfb⟩:=ZT0 hok;have hnd:=ZLR hperm hup;have hfl:=ZJh hperm
 have hfrm:∀x∈ZCd (grT t).1,0<=x.frame/\x.frame<=200000:=fun x hx=>by
  have h1:x.frame∈(ZCd (grT t).1).map Gp.frame:=List.mem_map_of_mem hx;rw[ZEP] at h1;obtain⟨y,hy,e⟩:=List.mem_map.1 ((hperm.map Gp.frame).mem_iff.1 h1);rw[<-e];exact hfb y hy
 generalize hG:(grT t).1=l at *;refine ZA4 fun hw3=>?_;refine zy ?_;refine ZAS (fun (st:Nat×Value) m ds h'=>ds=[]/\Ext h3 h'/\st.1<=l.length/\Own h3 h' [slI h3 st.2 gapT 4 ((ZCd (l.take st.1)).flatMap rowG) (ZCd (l.take st.1)).length]/\AllK m [(2,st.2),(3,v2),(4,v3),(32,.slice a1 l.length c1),(33,i64 l.length),(34,i64 (st.1:Nat))]) (fun st=>l.length-st.1) (0,.slice none 0 0) ?_ ?_
 ·exact⟨rfl,Ext.refl _,Nat.zero_le _,(Own.nil h3 h3).nilSl gapT 4,rfl,rfl,rfl,rfl,rfl,rfl,trivial⟩
 rintro⟨k,v⟩ m ds h4 ⟨rfl,hE4,hk,hO4,hall⟩;refine Wc.le (ZBg fun hW4=>?_) (Le.kn hall);clear hall;simp only at hk hO4 ⊢;refine zy ?_;refine zC (ZAx rfl rfl) (fun hlt=>?_) (fun hlt=>?_);rotate_left
 ·have hke:k=l.length:=by omega
  rw[hke,List.take_length] at hO4
  have hS:Sv Tryz.prog 40 [v,.func (.func 41) ⟨[]⟩ ⟨[]⟩] h4 (RetP fun r h'=>r=.tuple ⟨[]⟩/\ZAE h3 h' v gapT 4 ((ZLe (ZCd l)).flatMap rowG) (ZCd l).length/\Exb (fun c=>ZBi v=some c) h4 h') :=
   ZMU ZRt (by decide) Tryz.isAgg96 Tryz.sizeOf96 (enc:=rowG) (fun _=>rfl) (fun x v hv=>by
    simp only[rowG,List.mem_cons,List.not_mem_nil,or_false] at hv
    rcases hv with rfl|rfl|rfl|rfl <;> rfl) (fun _=>rfl) (enters_of Tryz.func41 (by kernel_rfl) rfl) ZCw (cf:=fun x y=>x.frame-y.frame) (fun x hx y hy=>ZOM hnd hx hy) (fun x hx y hy h'=>ZSt (hfrm x hx) (hfrm y hy) h') (show ZAE _ _ _ _ _ _ _ from hO4.p1) (by omega) (ZMV _) (fun x=>ZHR _ x) (ZES hnd) (fun e=>by rw[e] at hfl;simp at hfl;omega)
  refine zy ?_;refine ZA5 rfl rfl rfl rfl rfl Bod.h rfl rfl hS ?_;rintro _ h10 ⟨rfl,hF10,hX10⟩;have hE10:Ext h3 h10:=hO4.grows hX10 hE4 hw3;rw[<-ZNs (ZES hnd)] at hF10;refine zy ?_;exact ZAB (ZAC rfl ⟨hE3.trans hE10,_,_,_,rfl,ZAE.slR (enc:=rowG) (k:=4) (fun _=>rfl) hF10,ZAE.slR (enc:=ZBp) (k:=4) (fun _=>rfl) (hF2.ext hE10),hF3.ext hE10⟩)
 have hk':k<l.length:=by omega
 obtain⟨b,o,oa,ea,row,hrow,ag,cg,er,hTG⟩:=hR3 k hk';have hgb:=q1 _ (List.getElem_mem hk');have htk:l.take (k+1)=l.take k++[l[k]]:=by rw[List.take_add_one,List.getElem?_eq_getElem hk'];rfl
 have hfa:=ZQ3 hk';generalize l[k]=g at *;have hst:=ZNa (l.take k) g;rw[<-htk] at hst;subst er;subst ea;have hrow4:=hE4.row hrow;generalize hFl:ZCd (l.take k)=F at *;refine zy ?_;refine zD (A_ix Und.h Tsz.h rfl rfl) ?_;refine ZAH rfl rfl Zr.h Tsz.h rfl (fun _=>rfl) rfl rfl rfl fun h5 hE5 hW5 hg5 hn5=>?_;have hO5:=((Own.newCe hO4 hW4 hE4.2.1 hE5 hg5 (Nat.le_refl _))).up2;have hE45:=hE4.trans hE5;generalize h4.nx=b10 at *;refine zy ?_;refine ZAS (fun (st:Nat×Value) m ds h'=>ds=[]/\Ext h3 h'/\st.1<=g.gaps.length/\Own h3 h' [slI h3 st.2 gapT 4 ((F++(g.gaps.take st.1).map (ZFM g)).flatMap rowG) (F++(g.gaps.take st.1).map (ZFM g)).length,ceI b10 [.slice ag g.gaps.length cg,i64 g.lo,i64 g.hi] grpT false]/\AllK m [(2,st.2),(3,v2),(4,v3),(10,.pointer (some ⟨b10,0,none⟩)),(32,.slice (some ⟨b,o,oa⟩) l.length c1),(33,i64 l.length),(34,i64 (k:Nat)),(39,.slice ag g.gaps.length cg),(40,i64 g.gaps.length),(41,i64 (st.1:Nat))]) (fun st=>g.gaps.length-st.1) (0,v) ?_ ?_
 ·refine⟨rfl,hE45,Nat.zero_le _,?_,rfl,rfl,rfl,rfl,rfl,rfl,rfl,rfl,rfl,rfl,trivial⟩
  simp only[List.take_zero,List.map_nil,List.append_nil];exact hO5
 clear hO5 hE45 hE5 hW5 hg5 hn5 hO4;rintro⟨q,w⟩ m ds h6 ⟨rfl,hE6,hq,hO6,hall⟩;refine Wc.le (ZBg fun hW6=>?_) (Le.kn hall);clear hall;simp only at hq hO6 ⊢;have g10:h6.get b10=some (.cells [.slice ag g.gaps.length cg,i64 g.lo,i64 g.hi] grpT false):=hO6.p2;refine zy ?_;refine zC (ZAx rfl rfl) (fun hlq=>?_) (fun hlq=>?_);rotate_left
 ·have hqe:q=g.gaps.length:=by omega
  rw[hqe,List.take_length,<-hst] at hO6;refine zy ?_;exact⟨(k+1,w),(by show l.length-(k+1)<l.length-k;omega),rfl,hE6,hk',hO6.sub (List.sublist_append_left [_] [_]),rfl,rfl,rfl,rfl,rfl,rfl,trivial⟩
 have hq':q<g.gaps.length:=by omega
 obtain⟨b2,o2,oa2,ea2,row2,hr2,hx2⟩:=hTG q hq';have htq:g.gaps.take (q+1)=g.gaps.take q++[g.gaps[q]]:=by rw[List.take_add_one,List.getElem?_eq_getElem hq'];rfl
 have hL6:(F++(g.gaps.take q).map (ZFM g)).length<=F.length+g.gaps.length:=by
  rw[List.length_append,List.length_map,List.length_take];omega
 have hst2:F++(g.gaps.take (q+1)).map (ZFM g)=(F++(g.gaps.take q).map (ZFM g))++[ZFM g g.gaps[q]]:=by rw[htq,List.map_append,List.append_assoc];rfl
 generalize g.gaps[q]=x at *;have hx':row2=rowG x:=hx2;subst hx';subst ea2;have hrow6:=hE6.row hr2;generalize F++(g.gaps.take q).map (ZFM g)=E at *;refine zy ?_;refine zD (A_ix Und.h Tsz.h rfl rfl) ?_;refine ZAH rfl rfl Zr.h Tsz.h rfl (fun _=>rfl) rfl rfl rfl fun h7 hE7 hW7 hg7 hn7=>?_;have hO7:=Own.newCe hO6 hW6 hE6.2.1 hE7 hg7 (Nat.le_refl _);have hE67:=hE6.trans hE7;have k10:=hE7.get g10;generalize h6.nx=b12 at *;refine zy ?_;refine zW (ZIz (lo:=g.lo) (hi:=g.hi) (p:=isF x.frame) (hTG.ext' hE67) (ZQy hg7 _) hgb.1 hgb.2.1 hgb.2.2.1 hgb.2.2.2) fun h8 hE8=>?_;have hO8:=hO7.ext hE8;have hE68:=hE67.trans hE8
 refine zy ?_;refine ZAU (r:=rowG (ZFM g x)) hw3 hE68 rfl Tsz.h rfl rfl hO8 rfl rfl rfl fun h9 hW9 hO9 hE9=>?_;have k12:h9.get b12=some (.cells (rowG (ZFM g x)) gapT false):=hO9.p1;refine zy ?_;refine ZDi (cs:=rowG (ZFM g x)) rfl rfl Und.h Tsz.h Zr.h rfl rfl rfl rfl (ZM6 _ _ _ _) fun h11 hE11 hW11 hg11 hn11=>?_;refine zy ?_;refine ZBH (k:=1) (n:=E.length) (l:=rowG (ZFM g x)) hw3 (hE9.trans hE11) rfl rfl rfl rfl rfl Und.h inferInstance rfl rfl (hO9.up2.ext hE11) (ZAm Und.h (by intro k;simp) (ZAL hg11 rfl)) rfl rfl (by omega) (by omega) fun w' h12 hW12 hO12 hE12=>?_;refine zy ?_;refine⟨(q+1,w'),(by show g.gaps.length-(q+1)<g.gaps.length-q;omega),rfl,hE12,hq',?_,rfl,rfl,rfl,rfl,rfl,rfl,rfl,rfl,rfl,rfl,trivial⟩
 rw[hst2,List.flatMap_append,List.flatMap_singleton,List.length_append];exact (hO12.shuf (ceI 0 [] 0 false) [0,1,2] [0,2,1] (by decide) rfl).sub (List.sublist_append_left [_,_] [_])
abbrev xUY0:List Nat:=[0,0,3,7,0,0,48,112,255]
abbrev xUY1:List Nat:=[0,1,2,3,4,5,6,7,8]
theorem ZTI (a b:Bool)(d:Nat)(w:World):(Op.equalIn (d+1) 4 (.bool a) (.bool b)).run Tryz.prog w=.ok (decide (a=b)) w:=by
 simp[Op.equalIn,run_underlying Tryz.underlying4];cases a <;> cases b <;> rfl
def ZIf (t:TypeId)(row:List Value):Prop:=∀(d:Nat) (w:World),(Op.equalIn (d+3) t (.agg ⟨row⟩) (.agg ⟨row⟩)).run Tryz.prog w=.ok true w
theorem ZCD {t:TypeId}{row:List Value}(hg:Tryz.prog.eqGuardType Tryz.prog.depth t=false)(hf:flat (.agg ⟨row⟩)=true)(hs:ZIf t row){m:Mem}{h:Heap}{d:Option Tmp}{ty:TypeId}{pos:String}{af:Array Edge}{gu:Option (Nat×Bool)}{tz:TypeId}{x y:Operand}(hx:opk h m x=some (.agg ⟨row⟩))(hy:opk h m y=some (.agg ⟨row⟩)) :
  Aop Tryz.prog ⟨d,.binOp .neq t x y tz,ty,pos,af,gu⟩ m h (.bool false) h :=
 ZCe hx hy hf hf rfl fun w=>by
  simp only[Sem.run_bind,run_eqGuard_agg _ _ _ _ _ _ _ hg,Result.andThen_ok];rw[run_neq_struct];rw[hs 9997 w]
  rfl
theorem ZQH (x:I3):ZIf 77 (rowM x):=fun d w=>by
 rw[run_equalIn_struct _ _ _ _ _ (by kernel_rfl) (by kernel_rfl),ZBU _ _ _ _ _ [true,true,true] (by kernel_rfl) (by kernel_rfl)]
 ·rfl
 ·have e:((Tryz.prog.fieldsOf 77).toList.map fun f=>(f.type,f.offset))=[(3,0),(3,1),(3,2)]:=by kernel_rfl
  rw[e];have ii:∀{xs:Array Value} {o:Nat} {v:Int},xs[o]?=some (i64 v)->(part 3 xs o).run Tryz.prog w=.ok (i64 v) w:=fun h=>ZAd Tryz.underlying3 rfl h w;have ss:∀{xs:Array Value} {o:Nat} {v:List UInt8},xs[o]?=some (str v)->(part 9 xs o).run Tryz.prog w=.ok (str v) w:=fun h=>ZAd Tryz.underlying9 rfl h w;have bb:∀{xs:Array Value} {o:Nat} {v:Bool},xs[o]?=some (.bool v)->(part 4 xs o).run Tryz.prog w=.ok (.bool v) w:=fun h=>ZAd Tryz.underlying4 rfl h w;rintro i p q hp hq
  match i,hp,hq with
  | 0,hp,hq=>cases hp;cases hq;exact⟨i64 (x.1),i64 (x.1),ii rfl,ii rfl,by rw[ZBL];simp⟩
  | 1,hp,hq=>cases hp;cases hq;exact⟨i64 (x.2.1),i64 (x.2.1),ii rfl,ii rfl,by rw[ZBL];simp⟩
  | 2,hp,hq=>cases hp;cases hq;exact⟨i64 (x.2.2),i64 (x.2.2),ii rfl,ii rfl,by rw[ZBL];simp⟩
  | _+3,hp,_=>cases hp
theorem ZSr (x:Int×Int):ZIf 79 (rowP x):=fun d w=>by
 rw[run_equalIn_struct _ _ _ _ _ (by kernel_rfl) (by kernel_rfl),ZBU _ _ _ _ _ [true,true] (by kernel_rfl) (by kernel_rfl)]
 ·rfl
 ·have e:((Tryz.prog.fieldsOf 79).toList.map fun f=>(f.type,f.offset))=[(3,0),(3,1)]:=by kernel_rfl
  rw[e];have ii:∀{xs:Array Value} {o:Nat} {v:Int},xs[o]?=some (i64 v)->(part 3 xs o).run Tryz.prog w=.ok (i64 v) w:=fun h=>ZAd Tryz.underlying3 rfl h w;have ss:∀{xs:Array Value} {o:Nat} {v:List UInt8},xs[o]?=some (str v)->(part 9 xs o).run Tryz.prog w=.ok (str v) w:=fun h=>ZAd Tryz.underlying9 rfl h w;have bb:∀{xs:Array Value} {o:Nat} {v:Bool},xs[o]?=some (.bool v)->(part 4 xs o).run Tryz.prog w=.ok (.bool v) w:=fun h=>ZAd Tryz.underlying4 rfl h w;rintro i p q hp hq
  match i,hp,hq with
  | 0,hp,hq=>cases hp;cases hq;exact⟨i64 (x.1),i64 (x.1),ii rfl,ii rfl,by rw[ZBL];simp⟩
  | 1,hp,hq=>cases hp;cases hq;exact⟨i64 (x.2),i64 (x.2),ii rfl,ii rfl,by rw[ZBL];simp⟩
  | _+2,hp,_=>cases hp
theorem ZSd (x:I3):ZIf 81 (rowM x):=fun d w=>by
 rw[run_equalIn_struct _ _ _ _ _ (by kernel_rfl) (by kernel_rfl),ZBU _ _ _ _ _ [true,true,true] (by kernel_rfl) (by kernel_rfl)]
 ·rfl
 ·have e:((Tryz.prog.fieldsOf 81).toList.map fun f=>(f.type,f.offset))=[(3,0),(3,1),(3,2)]:=by kernel_rfl
  rw[e];have ii:∀{xs:Array Value} {o:Nat} {v:Int},xs[o]?=some (i64 v)->(part 3 xs o).run Tryz.prog w=.ok (i64 v) w:=fun h=>ZAd Tryz.underlying3 rfl h w;have ss:∀{xs:Array Value} {o:Nat} {v:List UInt8},xs[o]?=some (str v)->(part 9 xs o).run Tryz.prog w=.ok (str v) w:=fun h=>ZAd Tryz.underlying9 rfl h w;have bb:∀{xs:Array Value} {o:Nat} {v:Bool},xs[o]?=some (.bool v)->(part 4 xs o).run Tryz.prog w=.ok (.bool v) w:=fun h=>ZAd Tryz.underlying4 rfl h w;rintro i p q hp hq
  match i,hp,hq with
  | 0,hp,hq=>cases hp;cases hq;exact⟨i64 (x.1),i64 (x.1),ii rfl,ii rfl,by rw[ZBL];simp⟩
  | 1,hp,hq=>cases hp;cases hq;exact⟨i64 (x.2.1),i64 (x.2.1),ii rfl,ii rfl,by rw[ZBL];simp⟩
  | 2,hp,hq=>cases hp;cases hq;exact⟨i64 (x.2.2),i64 (x.2.2),ii rfl,ii rfl,by rw[ZBL];simp⟩
  | _+3,hp,_=>cases hp
theorem ZTL (x:Gp):ZIf 96 (rowG x):=fun d w=>by
 rw[run_equalIn_struct _ _ _ _ _ (by kernel_rfl) (by kernel_rfl),ZBU _ _ _ _ _ [true,true,true] (by kernel_rfl) (by kernel_rfl)]
 ·rfl
 ·have e:((Tryz.prog.fieldsOf 96).toList.map fun f=>(f.type,f.offset))=[(3,0),(3,1),(23,2)]:=by kernel_rfl
  rw[e];have ii:∀{xs:Array Value} {o:Nat} {v:Int},xs[o]?=some (i64 v)->(part 3 xs o).run Tryz.prog w=.ok (i64 v) w:=fun h=>ZAd Tryz.underlying3 rfl h w;have ss:∀{xs:Array Value} {o:Nat} {v:List UInt8},xs[o]?=some (str v)->(part 9 xs o).run Tryz.prog w=.ok (str v) w:=fun h=>ZAd Tryz.underlying9 rfl h w;have bb:∀{xs:Array Value} {o:Nat} {v:Bool},xs[o]?=some (.bool v)->(part 4 xs o).run Tryz.prog w=.ok (.bool v) w:=fun h=>ZAd Tryz.underlying4 rfl h w;rintro i p q hp hq
  match i,hp,hq with
  | 0,hp,hq=>cases hp;cases hq;exact⟨i64 (x.frame),i64 (x.frame),ii rfl,ii rfl,by rw[ZBL];simp⟩
  | 1,hp,hq=>cases hp;cases hq;exact⟨i64 (x.kind),i64 (x.kind),ii rfl,ii rfl,by rw[ZBL];simp⟩
  | 2,hp,hq=>cases hp;cases hq;exact⟨.agg ⟨[i64 x.lo,i64 x.hi]⟩,.agg ⟨[i64 x.lo,i64 x.hi]⟩,ZFQ Tryz.underlying23 rfl Tsz.h _ _ w,ZFQ Tryz.underlying23 rfl Tsz.h _ _ w,by rw[ZFo];simp⟩
  | _+3,hp,_=>cases hp
theorem ZTy (x:Sk):ZIf 114 (ZBp x):=fun d w=>by
 rw[run_equalIn_struct _ _ _ _ _ (by kernel_rfl) (by kernel_rfl),ZBU _ _ _ _ _ [true,true,true,true] (by kernel_rfl) (by kernel_rfl)]
 ·rfl
 ·have e:((Tryz.prog.fieldsOf 114).toList.map fun f=>(f.type,f.offset))=[(9,0),(3,1),(9,2),(3,3)]:=by kernel_rfl
  rw[e];have ii:∀{xs:Array Value} {o:Nat} {v:Int},xs[o]?=some (i64 v)->(part 3 xs o).run Tryz.prog w=.ok (i64 v) w:=fun h=>ZAd Tryz.underlying3 rfl h w;have ss:∀{xs:Array Value} {o:Nat} {v:List UInt8},xs[o]?=some (str v)->(part 9 xs o).run Tryz.prog w=.ok (str v) w:=fun h=>ZAd Tryz.underlying9 rfl h w;have bb:∀{xs:Array Value} {o:Nat} {v:Bool},xs[o]?=some (.bool v)->(part 4 xs o).run Tryz.prog w=.ok (.bool v) w:=fun h=>ZAd Tryz.underlying4 rfl h w;rintro i p q hp hq
  match i,hp,hq with
  | 0,hp,hq=>cases hp;cases hq;exact⟨str (x.who),str (x.who),ss rfl,ss rfl,by rw[ZLh];simp⟩
  | 1,hp,hq=>cases hp;cases hq;exact⟨i64 (x.number),i64 (x.number),ii rfl,ii rfl,by rw[ZBL];simp⟩
  | 2,hp,hq=>cases hp;cases hq;exact⟨str (x.first),str (x.first),ss rfl,ss rfl,by rw[ZLh];simp⟩
  | 3,hp,hq=>cases hp;cases hq;exact⟨i64 (x.fnumber),i64 (x.fnumber),ii rfl,ii rfl,by rw[ZBL];simp⟩
  | _+4,hp,_=>cases hp
theorem ZUL (x:Pc):ZIf 120 (ZB4 x):=fun d w=>by
 rw[run_equalIn_struct _ _ _ _ _ (by kernel_rfl) (by kernel_rfl),ZBU _ _ _ _ _ [true,true,true] (by kernel_rfl) (by kernel_rfl)]
 ·rfl
 ·have e:((Tryz.prog.fieldsOf 120).toList.map fun f=>(f.type,f.offset))=[(3,0),(3,1),(4,2)]:=by kernel_rfl
  rw[e];have ii:∀{xs:Array Value} {o:Nat} {v:Int},xs[o]?=some (i64 v)->(part 3 xs o).run Tryz.prog w=.ok (i64 v) w:=fun h=>ZAd Tryz.underlying3 rfl h w;have ss:∀{xs:Array Value} {o:Nat} {v:List UInt8},xs[o]?=some (str v)->(part 9 xs o).run Tryz.prog w=.ok (str v) w:=fun h=>ZAd Tryz.underlying9 rfl h w;have bb:∀{xs:Array Value} {o:Nat} {v:Bool},xs[o]?=some (.bool v)->(part 4 xs o).run Tryz.prog w=.ok (.bool v) w:=fun h=>ZAd Tryz.underlying4 rfl h w;rintro i p q hp hq
  match i,hp,hq with
  | 0,hp,hq=>cases hp;cases hq;exact⟨i64 (x.frm),i64 (x.frm),ii rfl,ii rfl,by rw[ZBL];simp⟩
  | 1,hp,hq=>cases hp;cases hq;exact⟨i64 (x.til),i64 (x.til),ii rfl,ii rfl,by rw[ZBL];simp⟩
  | 2,hp,hq=>cases hp;cases hq;exact⟨.bool (x.leader),.bool (x.leader),bb rfl,bb rfl,by rw[ZTI];simp⟩
  | _+3,hp,_=>cases hp
theorem ZJg {a b:Option Addr}{ca cb:Nat}{l:List Nt}{h:Heap}(hl:TabA rowN 8 h a l)(hl':TabA rowN 8 h b l)(hlen:l.length<=100000000):Sv Tryz.prog 9 [.slice a l.length ca,.slice b l.length cb] h (RetP fun v h'=>v=.bool true/\h'=h):=by
 refine ZAF Tryz.func9 rfl (by rw[Tryz.ntmps9];rfl) ?_;show Wc Tryz.prog ⟨9,26,none⟩ _ _ _ _ _;refine zy ?_;refine zD (A_ff (fun q=>q rfl) (ZA3 rfl rfl)) ?_;refine ZAS (fun (k:Nat) m ds h'=>ds=[]/\h=h'/\k<=l.length/\AllK m [(0,.slice a l.length ca),(1,.slice b l.length cb),(5,i64 (k:Nat))]) (fun k=>l.length-k) 0 ?_ ?_
 ·exact⟨rfl,rfl,Nat.zero_le _,rfl,rfl,rfl,trivial⟩
 rintro k m ds h' ⟨rfl,rfl,hk,hall⟩;refine Wc.le ?_ (Le.kn hall);clear hall;refine zy ?_;refine zC (ZAx rfl rfl) (fun hlt=>?_) (fun hlt=>?_);rotate_left
 ·refine zy ?_
  exact ZAB (ZAC rfl ⟨rfl,rfl⟩)
 have hk':k<l.length:=by omega
 obtain⟨b1,o1,oa1,rfl,row1,hr1,hx1⟩:=hl k hk';obtain⟨b2,o2,oa2,rfl,row2,hr2,hx2⟩:=hl' k hk';generalize l[k]=x at *;have e1:row1=rowN x:=hx1;have e2:row2=rowN x:=hx2;subst e1;subst e2;refine zy ?_;refine ZAR hmix xUY0 xUY1 none [] (by kernel_rfl) (by kernel_rfl) ?_;refine z_m ?_;refine z_m ?_;refine ZAI rfl rfl rfl rfl rfl (fun _=>ZAN (k:=k) Und.h Tsz.h rfl rfl rfl hk') ?_;refine z_r ?_;refine z_m ?_;refine z_m ?_;refine ZAI rfl rfl rfl rfl rfl (fun _=>ZAN (k:=k) Und.h Tsz.h rfl rfl rfl hk') ?_;refine z_r ?_;refine ZAI rfl rfl rfl rfl rfl (fun _=>ZKm rfl rfl) ?_;refine ZAc (ZAA rfl) nb' ?_;rw[decide_eq_false (fun q=>q rfl)]
 refine zy ?_;exact⟨k+1,(by show l.length-(k+1)<l.length-k;omega),rfl,rfl,hk',rfl,rfl,rfl,trivial⟩
theorem ZHK {a b:Option Addr}{ca cb:Nat}{l:List Gp}{h:Heap}(hl:TabA rowG 4 h a l)(hl':TabA rowG 4 h b l)(hlen:l.length<=100000000):Sv Tryz.prog 11 [.slice a l.length ca,.slice b l.length cb] h (RetP fun v h'=>v=.bool true/\h'=h):=by
 refine ZAF Tryz.func11 rfl (by rw[Tryz.ntmps11];rfl) ?_;show Wc Tryz.prog ⟨11,26,none⟩ _ _ _ _ _;refine zy ?_;refine zD (A_ff (fun q=>q rfl) (ZA3 rfl rfl)) ?_;refine ZAS (fun (k:Nat) m ds h'=>ds=[]/\h=h'/\k<=l.length/\AllK m [(0,.slice a l.length ca),(1,.slice b l.length cb),(5,i64 (k:Nat))]) (fun k=>l.length-k) 0 ?_ ?_
 ·exact⟨rfl,rfl,Nat.zero_le _,rfl,rfl,rfl,trivial⟩
 rintro k m ds h' ⟨rfl,rfl,hk,hall⟩;refine Wc.le ?_ (Le.kn hall);clear hall;refine zy ?_;refine zC (ZAx rfl rfl) (fun hlt=>?_) (fun hlt=>?_);rotate_left
 ·refine zy ?_
  exact ZAB (ZAC rfl ⟨rfl,rfl⟩)
 have hk':k<l.length:=by omega
 obtain⟨b1,o1,oa1,rfl,row1,hr1,hx1⟩:=hl k hk';obtain⟨b2,o2,oa2,rfl,row2,hr2,hx2⟩:=hl' k hk';generalize l[k]=x at *;have e1:row1=rowG x:=hx1;have e2:row2=rowG x:=hx2;subst e1;subst e2;refine zy ?_;refine ZAR hmix xUY0 xUY1 none [] (by kernel_rfl) (by kernel_rfl) ?_;refine z_m ?_;refine z_m ?_;refine ZAI rfl rfl rfl rfl rfl (fun _=>ZAN (k:=k) Und.h Tsz.h rfl rfl rfl hk') ?_;refine z_r ?_;refine z_m ?_;refine z_m ?_;refine ZAI rfl rfl rfl rfl rfl (fun _=>ZAN (k:=k) Und.h Tsz.h rfl rfl rfl hk') ?_;refine z_r ?_;refine ZAI rfl rfl rfl rfl rfl (fun _=>ZCD (by kernel_rfl) rfl (ZTL x) rfl rfl) ?_;refine ZAc (ZAA rfl) nb' ?_
 refine zy ?_;exact⟨k+1,(by show l.length-(k+1)<l.length-k;omega),rfl,rfl,hk',rfl,rfl,rfl,trivial⟩
theorem ZHl {a b:Option Addr}{ca cb:Nat}{l:List Sk}{h:Heap}(hl:TabA ZBp 4 h a l)(hl':TabA ZBp 4 h b l)(hlen:l.length<=100000000):Sv Tryz.prog 12 [.slice a l.length ca,.slice b l.length cb] h (RetP fun v h'=>v=.bool true/\h'=h):=by
 refine ZAF Tryz.func12 rfl (by rw[Tryz.ntmps12];rfl) ?_;show Wc Tryz.prog ⟨12,26,none⟩ _ _ _ _ _;refine zy ?_;refine zD (A_ff (fun q=>q rfl) (ZA3 rfl rfl)) ?_;refine ZAS (fun (k:Nat) m ds h'=>ds=[]/\h=h'/\k<=l.length/\AllK m [(0,.slice a l.length ca),(1,.slice b l.length cb),(5,i64 (k:Nat))]) (fun k=>l.length-k) 0 ?_ ?_
 ·exact⟨rfl,rfl,Nat.zero_le _,rfl,rfl,rfl,trivial⟩
 rintro k m ds h' ⟨rfl,rfl,hk,hall⟩;refine Wc.le ?_ (Le.kn hall);clear hall;refine zy ?_;refine zC (ZAx rfl rfl) (fun hlt=>?_) (fun hlt=>?_);rotate_left
 ·refine zy ?_
  exact ZAB (ZAC rfl ⟨rfl,rfl⟩)
 have hk':k<l.length:=by omega
 obtain⟨b1,o1,oa1,rfl,row1,hr1,hx1⟩:=hl k hk';obtain⟨b2,o2,oa2,rfl,row2,hr2,hx2⟩:=hl' k hk';generalize l[k]=x at *;have e1:row1=ZBp x:=hx1;have e2:row2=ZBp x:=hx2;subst e1;subst e2;refine zy ?_;refine ZAR hmix xUY0 xUY1 none [] (by kernel_rfl) (by kernel_rfl) ?_;refine z_m ?_;refine z_m ?_;refine ZAI rfl rfl rfl rfl rfl (fun _=>ZAN (k:=k) Und.h Tsz.h rfl rfl rfl hk') ?_;refine z_r ?_;refine z_m ?_;refine z_m ?_;refine ZAI rfl rfl rfl rfl rfl (fun _=>ZAN (k:=k) Und.h Tsz.h rfl rfl rfl hk') ?_;refine z_r ?_;refine ZAI rfl rfl rfl rfl rfl (fun _=>ZCD (by kernel_rfl) rfl (ZTy x) rfl rfl) ?_;refine ZAc (ZAA rfl) nb' ?_
 refine zy ?_;exact⟨k+1,(by show l.length-(k+1)<l.length-k;omega),rfl,rfl,hk',rfl,rfl,rfl,trivial⟩
theorem ZIy {a b:Option Addr}{ca cb:Nat}{l:List Pc}{h:Heap}(hl:TabA ZB4 3 h a l)(hl':TabA ZB4 3 h b l)(hlen:l.length<=100000000):Sv Tryz.prog 16 [.slice a l.length ca,.slice b l.length cb] h (RetP fun v h'=>v=.bool true/\h'=h):=by
 refine ZAF Tryz.func16 rfl (by rw[Tryz.ntmps16];rfl) ?_;show Wc Tryz.prog ⟨16,26,none⟩ _ _ _ _ _;refine zy ?_;refine zD (A_ff (fun q=>q rfl) (ZA3 rfl rfl)) ?_;refine ZAS (fun (k:Nat) m ds h'=>ds=[]/\h=h'/\k<=l.length/\AllK m [(0,.slice a l.length ca),(1,.slice b l.length cb),(5,i64 (k:Nat))]) (fun k=>l.length-k) 0 ?_ ?_
 ·exact⟨rfl,rfl,Nat.zero_le _,rfl,rfl,rfl,trivial⟩
 rintro k m ds h' ⟨rfl,rfl,hk,hall⟩;refine Wc.le ?_ (Le.kn hall);clear hall;refine zy ?_;refine zC (ZAx rfl rfl) (fun hlt=>?_) (fun hlt=>?_);rotate_left
 ·refine zy ?_
  exact ZAB (ZAC rfl ⟨rfl,rfl⟩)
 have hk':k<l.length:=by omega
 obtain⟨b1,o1,oa1,rfl,row1,hr1,hx1⟩:=hl k hk';obtain⟨b2,o2,oa2,rfl,row2,hr2,hx2⟩:=hl' k hk';generalize l[k]=x at *;have e1:row1=ZB4 x:=hx1;have e2:row2=ZB4 x:=hx2;subst e1;subst e2;refine zy ?_;refine ZAR hmix xUY0 xUY1 none [] (by kernel_rfl) (by kernel_rfl) ?_;refine z_m ?_;refine z_m ?_;refine ZAI rfl rfl rfl rfl rfl (fun _=>ZAN (k:=k) Und.h Tsz.h rfl rfl rfl hk') ?_;refine z_r ?_;refine z_m ?_;refine z_m ?_;refine ZAI rfl rfl rfl rfl rfl (fun _=>ZAN (k:=k) Und.h Tsz.h rfl rfl rfl hk') ?_;refine z_r ?_;refine ZAI rfl rfl rfl rfl rfl (fun _=>ZCD (by kernel_rfl) rfl (ZUL x) rfl rfl) ?_;refine ZAc (ZAA rfl) nb' ?_
 refine zy ?_;exact⟨k+1,(by show l.length-(k+1)<l.length-k;omega),rfl,rfl,hk',rfl,rfl,rfl,trivial⟩
abbrev xUZ1:List Nat:=[0,1,0,7,15,0,32,0,224,480,1023]
abbrev xUZ2:List Nat:=[0,1,2,3,4,5,6,7,8,9,10]
theorem ZKu {a b:Option Addr}{ca cb:Nat}{l:List Int}{h:Heap}(hl:ZBf i64 h a l)(hl':ZBf i64 h b l)(hlen:l.length<=100000000):Sv Tryz.prog 13 [.slice a l.length ca,.slice b l.length cb] h (RetP fun v h'=>v=.bool true/\h'=h):=by
 refine ZAF Tryz.func13 rfl (by rw[Tryz.ntmps13];rfl) ?_;show Wc Tryz.prog ⟨13,26,none⟩ _ _ _ _ _;refine zy ?_;refine zD (A_ff (fun q=>q rfl) (ZA3 rfl rfl)) ?_;refine ZAS (fun (k:Nat) m ds h'=>ds=[]/\h=h'/\k<=l.length/\AllK m [(0,.slice a l.length ca),(1,.slice b l.length cb),(5,i64 (k:Nat))]) (fun k=>l.length-k) 0 ?_ ?_
 ·exact⟨rfl,rfl,Nat.zero_le _,rfl,rfl,rfl,trivial⟩
 rintro k m ds h' ⟨rfl,rfl,hk,hall⟩;refine Wc.le ?_ (Le.kn hall);clear hall;refine zy ?_;refine zC (ZAx rfl rfl) (fun hlt=>?_) (fun hlt=>?_);rotate_left
 ·refine zy ?_
  exact ZAB (ZAC rfl ⟨rfl,rfl⟩)
 have hk':k<l.length:=by omega
 obtain⟨b1,o1,oa1,rfl,hc1⟩:=hl k hk';obtain⟨b2,o2,oa2,rfl,hc2⟩:=hl' k hk';generalize l[k]=x at *;refine zy ?_;refine ZAR hmix [0,0,3,7,0,0,48,112,255] [0,1,2,3,4,5,6,7,8] none [] (by kernel_rfl) (by kernel_rfl) ?_;refine z_m ?_;refine z_m ?_;refine ZAI rfl rfl rfl rfl rfl (fun _=>ZAN (k:=k) Und.h Tsz.h rfl rfl rfl hk') ?_;refine z_l ?_;refine z_m ?_;refine z_m ?_;refine ZAI rfl rfl rfl rfl rfl (fun _=>ZAN (k:=k) Und.h Tsz.h rfl rfl rfl hk') ?_;refine z_l ?_;refine ZAI rfl rfl rfl rfl rfl (fun _=>A_ff (show ¬(¬x=x) from fun q=>q rfl) (ZA3 rfl rfl)) ?_;refine ZAc (ZAA rfl) nb' ?_;refine zy ?_;exact⟨k+1,(by show l.length-(k+1)<l.length-k;omega),rfl,rfl,hk',rfl,rfl,rfl,trivial⟩
theorem ZGR (a b:Int):ZIf 23 [i64 a,i64 b]:=fun d w=>by
 rw[ZFo a b a b (d+1) w];simp
set_option maxHeartbeats 4000000 in
theorem ZLV {r:Rl}{am as' al am2 as2 al2:Option Addr}{cm cs cl cm2 cs2 cl2:Nat}{h:Heap}(hR:RlAt h am as' al r)(hR2:RlAt h am2 as2 al2 r)(hok:r.Ok):Sv Tryz.prog 8 [.agg ⟨rowR r am cm as' cs al cl⟩,.agg ⟨rowR r am2 cm2 as2 cs2 al2 cl2⟩] h (RetP fun v h'=>v=.bool true/\Ext h h'):=by
 refine ZA0 fun hw=>?_;have hml:=hok.mlen;have hsl:=hok.slen;have hll:=hok.llen;refine ZAF Tryz.func8 rfl (by rw[Tryz.ntmps8];rfl) ?_;show Wc Tryz.prog ⟨8,127,none⟩ _ _ _ _ _;refine zy ?_;refine ZAv rfl rfl rfl fun h1 hE1 hW1 hg1 hn1=>?_;refine zy ?_;refine ZAv rfl rfl rfl fun h2 hE2 hW2 hg2 hn2=>?_;have k1:=hE2.get hg1;have hE12:=hE1.trans hE2;have hQ:=hR.ext hE12;have hQ2:=hR2.ext hE12;generalize h1.nx=b3 at *;generalize h.nx=b2 at *;clear hE2 hE1 hg1 hW1;refine zy ?_;refine zD (A_ff (fun q=>q rfl) (ZFI rfl rfl)) ?_;refine zD (A_ff (fun q=>q rfl) (ZA3 rfl rfl)) ?_;refine zD (A_ff (fun q=>q rfl) (ZA3 rfl rfl)) ?_
 refine zD (A_ff (fun q=>q rfl) (ZA3 rfl rfl)) ?_;refine zD (ZCD (by kernel_rfl) rfl (ZGR r.ylo r.yhi) rfl rfl) ?_;refine zD (A_ff (fun q=>q rfl) (ZA3 rfl rfl)) ?_;refine zD (A_ff (fun q=>q rfl) (ZA3 rfl rfl)) ?_;refine zD (A_ff (fun q=>q rfl) (ZA3 rfl rfl)) ?_;refine zD (A_ff (fun q=>q rfl) (ZA3 rfl rfl)) ?_;refine ZAS (fun (k:Nat) m ds h'=>ds=[]/\h2=h'/\k<=r.marks.length/\AllK m [(2,.pointer (some ⟨b2,0,none⟩)),(3,.pointer (some ⟨b3,0,none⟩)),(5,i64 (k:Nat))]) (fun k=>r.marks.length-k) 0 ?_ ?_
 ·exact⟨rfl,rfl,Nat.zero_le _,rfl,rfl,rfl,trivial⟩
 rintro k m ds h' ⟨rfl,rfl,hk,hall⟩;refine Wc.le ?_ (Le.kn hall);clear hall;refine zy ?_;refine zC (ZAx rfl rfl) (fun hlt0=>?_) (fun hlt0=>?_)
 ·have hk':k<r.marks.length:=by omega
  obtain⟨b1,o1,oa1,ea,row1,hr1,hx1⟩:=hQ.m k hk';obtain⟨c1,p1,oc1,ec,row2,hr2,hx2⟩:=hQ2.m k hk';generalize r.marks[k]=x at *;have e1:row1=rowM x:=hx1;have e2:row2=rowM x:=hx2;subst e1;subst e2;subst ea;subst ec;refine zy ?_;refine ZAR hmix xUZ1 xUZ2 none [] (by kernel_rfl) (by kernel_rfl) ?_;refine z_f ?_;refine z_l ?_;refine z_m ?_;refine ZAI rfl rfl rfl rfl rfl (fun _=>ZAN (k:=k) Und.h Tsz.h rfl rfl rfl hk') ?_;refine z_r ?_;refine z_f ?_;refine z_l ?_;refine z_m ?_;refine ZAI rfl rfl rfl rfl rfl (fun _=>ZAN (k:=k) Und.h Tsz.h rfl rfl rfl hk') ?_;refine z_r ?_;refine ZAI rfl rfl rfl rfl rfl (fun _=>ZCD (by kernel_rfl) rfl (ZQH x) rfl rfl) ?_
  refine ZAc (ZAA rfl) nb' ?_;refine zy ?_;exact⟨k+1,(by show r.marks.length-(k+1)<r.marks.length-k;omega),rfl,rfl,hk',rfl,rfl,rfl,trivial⟩
 clear hk hlt0;refine zy ?_;refine ZAS (fun (k:Nat) m ds h'=>ds=[]/\h2=h'/\k<=r.syms.length/\AllK m [(2,.pointer (some ⟨b2,0,none⟩)),(3,.pointer (some ⟨b3,0,none⟩)),(6,i64 (k:Nat))]) (fun k=>r.syms.length-k) 0 ?_ ?_
 ·exact⟨rfl,rfl,Nat.zero_le _,rfl,rfl,rfl,trivial⟩
 rintro k m ds h' ⟨rfl,rfl,hk,hall⟩;refine Wc.le ?_ (Le.kn hall);clear hall;refine zy ?_;refine zC (ZAx rfl rfl) (fun hlt1=>?_) (fun hlt1=>?_)
 ·have hk':k<r.syms.length:=by omega
  obtain⟨b1,o1,oa1,ea,row1,hr1,hx1⟩:=hQ.s k hk';obtain⟨c1,p1,oc1,ec,row2,hr2,hx2⟩:=hQ2.s k hk';generalize r.syms[k]=x at *;have e1:row1=rowP x:=hx1;have e2:row2=rowP x:=hx2;subst e1;subst e2;subst ea;subst ec;refine zy ?_;refine ZAR hmix xUZ1 xUZ2 none [] (by kernel_rfl) (by kernel_rfl) ?_;refine z_f ?_;refine z_l ?_;refine z_m ?_;refine ZAI rfl rfl rfl rfl rfl (fun _=>ZAN (k:=k) Und.h Tsz.h rfl rfl rfl hk') ?_;refine z_r ?_;refine z_f ?_;refine z_l ?_;refine z_m ?_;refine ZAI rfl rfl rfl rfl rfl (fun _=>ZAN (k:=k) Und.h Tsz.h rfl rfl rfl hk') ?_;refine z_r ?_;refine ZAI rfl rfl rfl rfl rfl (fun _=>ZCD (by kernel_rfl) rfl (ZSr x) rfl rfl) ?_
  refine ZAc (ZAA rfl) nb' ?_;refine zy ?_;exact⟨k+1,(by show r.syms.length-(k+1)<r.syms.length-k;omega),rfl,rfl,hk',rfl,rfl,rfl,trivial⟩
 clear hk hlt1;refine zy ?_;refine ZAS (fun (k:Nat) m ds h'=>ds=[]/\h2=h'/\k<=r.lens.length/\AllK m [(2,.pointer (some ⟨b2,0,none⟩)),(3,.pointer (some ⟨b3,0,none⟩)),(7,i64 (k:Nat))]) (fun k=>r.lens.length-k) 0 ?_ ?_
 ·exact⟨rfl,rfl,Nat.zero_le _,rfl,rfl,rfl,trivial⟩
 rintro k m ds h' ⟨rfl,rfl,hk,hall⟩;refine Wc.le ?_ (Le.kn hall);clear hall;refine zy ?_;refine zC (ZAx rfl rfl) (fun hlt2=>?_) (fun hlt2=>?_)
 ·have hk':k<r.lens.length:=by omega
  obtain⟨b1,o1,oa1,ea,row1,hr1,hx1⟩:=hQ.l k hk';obtain⟨c1,p1,oc1,ec,row2,hr2,hx2⟩:=hQ2.l k hk';generalize r.lens[k]=x at *;have e1:row1=rowM x:=hx1;have e2:row2=rowM x:=hx2;subst e1;subst e2;subst ea;subst ec;refine zy ?_;refine ZAR hmix xUZ1 xUZ2 none [] (by kernel_rfl) (by kernel_rfl) ?_;refine z_f ?_;refine z_l ?_;refine z_m ?_;refine ZAI rfl rfl rfl rfl rfl (fun _=>ZAN (k:=k) Und.h Tsz.h rfl rfl rfl hk') ?_;refine z_r ?_;refine z_f ?_;refine z_l ?_;refine z_m ?_;refine ZAI rfl rfl rfl rfl rfl (fun _=>ZAN (k:=k) Und.h Tsz.h rfl rfl rfl hk') ?_;refine z_r ?_;refine ZAI rfl rfl rfl rfl rfl (fun _=>ZCD (by kernel_rfl) rfl (ZSd x) rfl rfl) ?_
  refine ZAc (ZAA rfl) nb' ?_;refine zy ?_;exact⟨k+1,(by show r.lens.length-(k+1)<r.lens.length-k;omega),rfl,rfl,hk',rfl,rfl,rfl,trivial⟩
 clear hk hlt2;refine zy ?_;exact ZAB (ZAC rfl ⟨rfl,hE12⟩)
end Go.Dw
