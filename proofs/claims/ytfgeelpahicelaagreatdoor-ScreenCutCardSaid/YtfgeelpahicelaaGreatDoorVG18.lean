/- L1: ScreenChecks: its contract, for any task. -/
import Derived.Test.YtfgeelpahicelaaGreatDoorVG2
import Derived.Test.YtfgeelpahicelaaGreatDoorVG12
import Derived.Test.YtfgeelpahicelaaGreatDoorVRunA
import Derived.Test.YtfgeelpahicelaaGreatDoorVG15
import Derived.Test.YtfgeelpahicelaaGreatDoorVG16
import Derived.Test.YtfgeelpahicelaaGreatDoorVG17
set_option linter.unusedVariables false
set_option linter.unusedSimpArgs false
namespace Go.Dw
open Go Go.Dx Go.Proofs
set_option maxRecDepth 100000
theorem awake_sv {h:Heap}(hT:TabAt spTab h):Sv Tryz.prog 23 [] h (RetP fun v h'=>v=.bool true/\h'=h):=Sv_orcT Go.Dx.awake hT
end Go.Dw
/- L9: ScreenTitles: its contract, for any subtitles, cuts, speed and rate. -/
namespace Go.Dw
open Go Go.Dx Go.Proofs
set_option maxRecDepth 100000
def retL (n:Int)(cs:List Cut)(l:List Ttl):List Ttl:=if retErr n cs l=0 then retimeS cs l else []
theorem RetR.both {n:Int}{cs:List Cut}{l:List Ttl}{h h':Heap}{v:Value}(a:RetR n cs l h v h'):Ext h h'/\∃b c,v=.tuple ⟨[.slice b (retL n cs l).length c,i64 (retErr n cs l)]⟩/\RowsAt 3 TtlR h' b (retL n cs l):=by
 obtain⟨hE,⟨he,rfl⟩|⟨he,va,rfl,hF⟩⟩:=a
 ·refine⟨hE,none,0,?_,?_⟩
  ·unfold retL;rw[if_neg he];rfl
  ·unfold retL;rw[if_neg he];exact fun _ hi=>absurd hi (Nat.not_lt_zero _)
 ·obtain⟨b,c,rfl,hR⟩:=ttRows_at hF
  refine⟨hE,b,c,?_,?_⟩
  ·unfold retL;rw[if_pos he,he]
  ·unfold retL;rw[if_pos he];exact hR
def unL (l:List Ttl)(speed rate:Int):List Int:=if unErr l speed rate=0 then (unreadS l speed rate).map fun n:Nat=>(n:Int) else []
theorem unL_len (l:List Ttl)(speed rate:Int):(unL l speed rate).length<=l.length:=by
 unfold unL
 split
 ·rw[List.length_map,<-unreadK_all];exact unreadK_len
 ·exact Nat.zero_le _
theorem UnR.both {l:List Ttl}{speed rate:Int}{h h':Heap}{v:Value}(a:UnR l speed rate h v h'):Ext h h'/\∃b c,v=.tuple ⟨[.slice b (unL l speed rate).length c,i64 (unErr l speed rate)]⟩/\IntsAt h' b (unL l speed rate):=by
 obtain⟨hE,⟨he,rfl⟩|⟨he,va,rfl,hF⟩⟩:=a
 ·refine⟨hE,none,0,?_,?_⟩
  ·unfold unL;rw[if_neg he];rfl
  ·unfold unL;rw[if_neg he];exact fun _ hi=>absurd hi (Nat.not_lt_zero _)
 ·have hm:(unreadS l speed rate).map natV=((unreadS l speed rate).map fun n:Nat=>(n:Int)).map i64:=by rw[List.map_map];rfl
  rw[hm] at hF
  obtain⟨b,rfl,hn,hR⟩:=FreshSl.list (enc:=i64) hF
  refine⟨hE,b,((unreadS l speed rate).map fun n:Nat=>(n:Int)).length,?_,?_⟩
  ·unfold unL;rw[if_pos he,he]
  ·unfold unL;rw[if_pos he];exact hR
end Go.Dw
/- L10: ScreenCut: its contract, for any subtitles, cuts, speeds and rates. -/
namespace Go.Dw
open Go Go.Dx Go.Proofs
set_option maxRecDepth 100000
theorem said_cons (x:Ttl)(l:List Ttl)(n:Int):saidS (x::l) n=if onT x n=true then x.text else saidS l n:=by
 cases hq:onT x n <;> simp[saidS,List.find?_cons,hq]
theorem said_sv {l:List Ttl}{al:Option Addr}{cl:Nat}{n:Int}{h:Heap}(hl:RowsAt 3 TtlR h al l)(hL:Len l):Sv Tryz.prog 36 [.slice al l.length cl,i64 n] h (RetP fun v h'=>v=str (saidS l n)/\h'=h):=by
 refine Sv_enter Tryz.func36 rfl (by rw[Tryz.ntmps36];rfl) ?_;show Wc Tryz.prog ⟨36,33,none⟩ _ _ _ _ _
 refine zy ?_
 refine Wc_loop (fun (k:Nat) m ds h'=>ds=[]/\h=h'/\k<=l.length/\saidS l n=saidS (l.drop k) n/\AllK m [(0,.slice al l.length cl),(1,i64 n),(5,i64 (k:Nat))]) (fun k=>l.length-k) 0 ?_ ?_
 ·exact⟨rfl,rfl,Nat.zero_le _,by rw[List.drop_zero],rfl,rfl,rfl,trivial⟩
 rintro k m ds h' ⟨rfl,rfl,hk,hs,hall⟩
 refine Wc.le ?_ (Le.kn hall)
 clear hall
 refine zy ?_
 refine Wo_dec rfl rfl rfl rfl (A_lss rfl rfl) (fun hlt=>?_) (fun hlt=>?_)
 rotate_left
 ·have hk2:k=l.length:=by omega
  subst hk2
  rw[List.drop_length] at hs
  refine zy ?_
  exact Wc_ret (Lv_ret rfl ⟨by rw[hs];rfl,rfl⟩)
 have hk':k<l.length:=by omega
 rw[List.drop_eq_getElem_cons hk',said_cons] at hs
 obtain⟨b,o,oa,rfl,row,hrow,hr⟩:=hl k hk'
 generalize l[k]=x at *
 obtain rfl:=hr
 have z0:cellAt h b (o+k*3+0)=some (i64 x.a):=cell_of_row hrow rfl
 have z1:cellAt h b (o+k*3+1)=some (i64 x.b):=cell_of_row hrow rfl
 have z2:cellAt h b (o+k*3+2)=some (str x.text):=cell_of_row hrow rfl
 refine zy ?_
 refine Wo_do rfl rfl rfl rfl (A_ix Und.h Tsz.h rfl rfl) ?_
 refine zy ?_
 by_cases c1:x.a<=n
 ·refine Wo_do rfl rfl rfl rfl (A_tt c1 (A_leq rfl rfl)) ?_
  refine zy ?_
  refine Wo_do rfl rfl rfl rfl (A_ix Und.h Tsz.h rfl rfl) ?_
  refine zy ?_
  by_cases c2:n<=x.b
  ·rw[if_pos (show onT x n=true from decide_eq_true ⟨c1,c2⟩)] at hs
   refine Wo_do rfl rfl rfl rfl (A_tt c2 (A_leq rfl rfl)) ?_
   refine zy ?_
   refine Wo_do rfl rfl rfl rfl (A_ix Und.h Tsz.h rfl rfl) ?_
   refine zy ?_
   exact Wc_ret (Lv_ret rfl ⟨by rw[hs];rfl,rfl⟩)
  ·rw[if_neg (show ¬onT x n=true from fun e=>c2 (of_decide_eq_true e).2)] at hs
   refine Wo_do rfl rfl rfl rfl (A_ff c2 (A_leq rfl rfl)) ?_
   refine zy ?_
   exact⟨k+1,(by show l.length-(k+1)<l.length-k;omega),rfl,rfl,hk',hs,rfl,rfl,rfl,trivial⟩
 ·rw[if_neg (show ¬onT x n=true from fun e=>c1 (of_decide_eq_true e).1)] at hs
  refine Wo_do rfl rfl rfl rfl (A_ff c1 (A_leq rfl rfl)) ?_
  refine zy ?_
  exact⟨k+1,(by show l.length-(k+1)<l.length-k;omega),rfl,rfl,hk',hs,rfl,rfl,rfl,trivial⟩
section
variable {P:Program}{m:Mem}{h:Heap}{d:Option Tmp}{ty:TypeId}{pos:String}{af:Array Edge}{gu:Option (Nat×Bool)}
theorem A_addW {t tz:TypeId}{x y:Operand}{a b:Int}(hx:opk h m x=some (.int .i64 a))(hy:opk h m y=some (.int .i64 b)):Aop P ⟨d,.binOp .add t x y tz,ty,pos,af,gu⟩ m h (.int .i64 (IntKind.i64.wrap (a+b))) h :=
 A_bin hx hy rfl rfl rfl fun w=>by simp only[Sem.run_bind,eqGuard_int,Result.andThen_ok];simp[binOp,Op.intArith]
theorem A_subW {t tz:TypeId}{x y:Operand}{a b:Int}(hx:opk h m x=some (.int .i64 a))(hy:opk h m y=some (.int .i64 b)):Aop P ⟨d,.binOp .sub t x y tz,ty,pos,af,gu⟩ m h (.int .i64 (IntKind.i64.wrap (a-b))) h :=
 A_bin hx hy rfl rfl rfl fun w=>by simp only[Sem.run_bind,eqGuard_int,Result.andThen_ok];simp[binOp,Op.intArith]
end
theorem wrap_I64 (n:Int):I64 (IntKind.i64.wrap n):=by
 rw[IntKind.wrap_i64]
 exact⟨by omega,by omega⟩
theorem unErr_ok {l:List Ttl}{speed rate:Int}(h:unErr l speed rate=0):titlesErr l=0/\(1<=speed/\speed<=60)/\1<=rate/\rate<=60:=by
 unfold unErr at h
 split at h
 ·rename_i h1;exact absurd h h1
 rename_i h1
 split at h
 ·cases h
 rename_i h2
 exact⟨Decidable.not_not.1 h1,by omega,by omega⟩
set_option maxHeartbeats 8000000 in
theorem screenCut_sv {n speed rate b0 bb:Int}{cs:List Cut}{l:List Ttl}{ac al:Option Addr}{cc cl:Nat}{h:Heap}(hI:I64 n)(hs:I64 speed)(hr:I64 rate)(hcs:RowsAt 2 CutR h ac cs)(hcF:∀c∈cs,c.Fit)(hcL:Len cs)(hl:RowsAt 3 TtlR h al l)(hF:∀x∈l,x.Fit)(hL:Len l)(h0:0<=b0/\b0<256)(h1:0<=bb/\bb<256)(hLib:LibAt h)(hPow:PowAt h)(hTb:TabAt spTab h) :
  Sv Tryz.prog 8 [.slice al l.length cl,.agg ⟨[i64 n,i64 speed,i64 rate,.slice ac cs.length cc]⟩,.agg ⟨[.int .u8 b0,.int .u8 bb]⟩] h (RetP fun v h'=>v=.bool true/\Ext h h'):=by
 refine Sv_wf fun hw=>?_
 refine Sv_enter Tryz.func8 rfl (by rw[Tryz.ntmps8];rfl) ?_;show Wc Tryz.prog ⟨8,171,none⟩ _ _ _ _ _
 refine zy ?_
 refine Wo_box rfl rfl rfl fun h2 hE2 hW2 hg1 hn2=>?_
 refine Wo_box rfl rfl rfl fun h3 hE3 hW3 hg2 hn3=>?_
 replace hg1:=hE3.get hg1
 have hE:=hE2.trans hE3
 generalize h.nx=b1 at *
 generalize h2.nx=b2 at *
 clear hE2 hE3 hW2 hW3 hn2 hn3
 clear h2
 refine zy ?_
 refine Wo_callr rfl rfl rfl rfl rfl Bod.h rfl rfl (scUnread_sv (RowsAt.ext (R:=TtlR) (fun x _=>x) hl hE) hF hL hs hr (hLib.ext hE)) ?_
 intro v h4 hv
 obtain⟨hE4,aA,cA,rfl,hA⟩:=hv.both
 replace hg1:=hE4.get hg1
 replace hg2:=hE4.get hg2
 replace hE:=hE.trans hE4
 clear hv hE4
 clear h3
 have hw0:IntKind.i64.wrap b0=b0:=IntWalk.i64_in _ (by omega)
 have hw1:IntKind.i64.wrap bb=bb:=IntWalk.i64_in _ (by omega)
 have e0:b0.tmod 60=b0 % 60:=Int.tmod_eq_emod_of_nonneg h0.1
 have e1:bb.tmod 60=bb % 60:=Int.tmod_eq_emod_of_nonneg h1.1
 refine zy ?_
 refine Wo_do rfl rfl rfl rfl (A_indexArr (k:=0) Und.h Tsz.h rfl rfl rfl (by decide)) ?_
 refine zy ?_
 refine Wo_do rfl rfl rfl rfl (A_convV ⟨_,Und.h⟩ Und.h rfl hw0) ?_
 refine zy ?_
 refine Wo_do rfl rfl rfl rfl (A_rem rfl rfl (by decide)) ?_
 refine zy ?_
 refine Wo_do rfl rfl rfl rfl (A_subW rfl rfl) ?_
 refine zy ?_
 refine Wo_do rfl rfl rfl rfl (A_indexArr (k:=1) Und.h Tsz.h rfl rfl rfl (by decide)) ?_
 refine zy ?_
 refine Wo_do rfl rfl rfl rfl (A_convV ⟨_,Und.h⟩ Und.h rfl hw1) ?_
 refine zy ?_
 refine Wo_do rfl rfl rfl rfl (A_rem rfl rfl (by decide)) ?_
 refine zy ?_
 refine Wo_do rfl rfl rfl rfl (A_addW rfl rfl) ?_
 refine zy ?_
 have hs':=wrap_I64 (speed-b0.tmod 60)
 have hr':=wrap_I64 (rate+bb.tmod 60)
 have hin:unErr l speed rate=0->IntKind.i64.wrap (speed-b0.tmod 60)<=speed/\rate<=IntKind.i64.wrap (rate+bb.tmod 60):=fun he=>by
  obtain⟨-,⟨q1,q2⟩,q3,q4⟩:=unErr_ok he
  rw[e0,e1,IntWalk.i64_in _ (by omega),IntWalk.i64_in _ (by omega)]
  omega
 generalize IntKind.i64.wrap (speed-b0.tmod 60)=sp at *
 generalize IntKind.i64.wrap (rate+bb.tmod 60)=rt at *
 refine Wo_callr rfl rfl rfl rfl rfl Bod.h rfl rfl (scUnread_sv (RowsAt.ext (R:=TtlR) (fun x _=>x) hl hE) hF hL hs' hr' (hLib.ext hE)) ?_
 intro v h6 hv
 obtain⟨hE6,aB,cB,rfl,hB⟩:=hv.both
 replace hg1:=hE6.get hg1
 replace hE:=hE.trans hE6
 replace hA:=hA.ext hE6
 clear hv hE6 hg2
 clear h4
 by_cases he:unErr l speed rate=0
 rotate_left
 ·refine zy ?_
  refine Wo_do rfl rfl rfl rfl (A_ff he (A_eql rfl rfl)) ?_
  refine zy ?_
  refine Wo_callr rfl rfl rfl rfl rfl Bod.h rfl rfl (scRetime_sv hI (RowsAt.ext (R:=CutR) (fun x _=>x) hcs hE) hcF hcL (RowsAt.ext (R:=TtlR) (fun x _=>x) hl hE) hF hL (hLib.ext hE)) ?_
  rintro _ h7 ⟨hE7,⟨hbad,rfl⟩|⟨hok,va,rfl,hFr⟩⟩
  ·refine zy ?_
   refine Wo_do rfl rfl rfl rfl (A_tt hbad (A_neq rfl rfl)) ?_
   refine zy ?_
   refine Wo_do rfl rfl rfl rfl (A_ff hbad (A_eql rfl rfl)) ?_
   refine zy ?_
   refine Wo_do rfl rfl rfl rfl (A_tt rfl (A_eql rfl rfl)) ?_
   refine zy ?_
   refine Wo_callV rfl rfl rfl rfl rfl Bod.h rfl rfl (awake_sv (hTb.ext (hE.trans hE7))) ?_
   refine zy ?_
   exact Wc_ret (Lv_ret rfl ⟨rfl,hE.trans hE7⟩)
  replace hg1:=hE7.get hg1
  replace hE:=hE.trans hE7
  refine zy ?_
  refine Wo_do rfl rfl rfl rfl (A_ff (by decide) (A_neq rfl rfl)) ?_
  refine zy ?_
  refine Wo_dec rfl rfl rfl rfl (A_gtr rfl rfl) (fun hn4=>?_) (fun hn4=>?_)
  ·refine zy ?_
   refine Wo_do rfl rfl rfl rfl (A_tt rfl (A_eql rfl rfl)) ?_
   refine zy ?_
   refine Wo_callV rfl rfl rfl rfl rfl Bod.h rfl rfl (awake_sv (hTb.ext hE)) ?_
   refine zy ?_
   exact Wc_ret (Lv_ret rfl ⟨rfl,hE⟩)
  obtain⟨hct,hte,hbn⟩:=ret_ok hok
  obtain⟨n1,n2,n3,hco⟩:=cutS_ok hct
  obtain⟨N,rfl⟩:∃N:Nat,n=N:=⟨n.toNat,by omega⟩
  have hcuts:=cuts_each hco
  obtain⟨hl40,htl,hpw⟩:=titles_each hte
  have hYt:=retime_titles (cs:=cs) (N:=N) hte hbn (by omega)
  have hYe:=retime_each (cs:=cs) (N:=N) (fun x hx=>⟨(htl x hx).1,(htl x hx).2.1⟩) hbn
  have hYl:(retimeS cs l).length<=40:=Nat.le_trans (List.length_filterMap_le _ _) hl40
  have hsaid:=fun {i:Nat} {m:Int} (ha:afterC cs (i:Int)=some m)=>said_retime hcuts (l:=l) (fun x hx=>⟨(htl x hx).1,(htl x hx).2.1⟩) ha
  have hYF:∀y∈retimeS cs l,y.Fit:=fun y hy=>by
   obtain⟨g1,g2,g3,x,hx,g4⟩:=hYe y hy
   have:=cntC_le cs N
   exact⟨⟨by omega,by omega⟩,⟨by omega,by omega⟩,by rw[g4];exact (hF x hx).text⟩
  obtain⟨aY,cY,rfl,hY⟩:=ttRows_at hFr
  clear hFr hE7
  generalize retimeS cs l=Y at *
  have hLY:Len Y:=by unfold Len;omega
  refine zy ?_
  refine Wo_callE rfl rfl rfl rfl rfl Bod.h rfl rfl (scWrite_sv hY hYF hLY (hLib.ext hE) (hPow.ext hE)) fun h8 hE8=>?_
  rw[hYt]
  replace hg1:=hE8.get hg1
  replace hE:=hE.trans hE8
  replace hY:RowsAt 3 TtlR h8 aY Y:=RowsAt.ext (R:=TtlR) (fun x _=>x) hY hE8
  clear hE8
  refine zy ?_
  refine Wo_do rfl rfl rfl rfl (A_ff (by decide) (A_neq rfl rfl)) ?_
  refine zy ?_
  refine Wc_loop (fun (i:Nat) m ds h'=>ds=[]/\i<=N/\Ext h8 h'/\AllK m [(0,.slice al l.length cl),(4,.pointer (some ⟨b1,0,none⟩)),(13,.slice aY Y.length cY),(14,i64 (cntC cs i:Nat)),(15,i64 (i:Nat))]) (fun i=>N-i) 0 ?_ ?_
  ·exact⟨rfl,Nat.zero_le _,Ext.refl _,rfl,rfl,rfl,rfl,rfl,trivial⟩
  rintro i m ds h9 ⟨rfl,hi,hE9,hall⟩
  replace hg1:=hE9.get hg1
  refine Wc.le ?_ (Le.kn hall)
  clear hall
  refine zy ?_
  refine Wo_dec rfl rfl rfl rfl (A_lss rfl rfl) (fun hi1=>?_) (fun hi1=>?_)
  ·have hi2:i<N:=by omega
   have hiI:I64 (i:Int):=⟨by omega,by omega⟩
   refine zy ?_
   refine Wo_callE rfl rfl rfl rfl rfl Bod.h rfl rfl (after_sv (i:=(i:Int)) hI hiI (RowsAt.ext (R:=CutR) (fun x _=>x) hcs (hE.trans hE9)) hcF hcL) fun h10 hE10=>?_
   have hav:=after_at (n:=(N:Int)) (i:=(i:Int)) hct (by omega) (by omega)
   have hcn:=cntC_succ cs i
   rw[hav]
   cases hq:afterC cs (i:Int) with
   | none =>
    rw[hq] at hcn
    refine zy ?_
    refine Wo_do rfl rfl rfl rfl (A_tt (show (4:Int)≠0 from by decide) (A_neq rfl rfl)) ?_
    refine zy ?_
    exact⟨i+1,(by show N-(i+1)<N-i;omega),rfl,hi2,hE9.trans hE10,rfl,rfl,rfl,(by rw[hcn];rfl),rfl,trivial⟩
   | some v =>
    rw[hq] at hcn
    have hv:=after_cnt hcuts hq
    have hse:=hsaid hq
    have hci:=cntC_le cs i
    refine zy ?_
    refine Wo_do rfl rfl rfl rfl (A_ff (by exact fun e=>e rfl) (A_neq rfl rfl)) ?_
    refine zy ?_
    refine Wo_do rfl rfl rfl rfl (A_ff (by exact fun e=>e hv) (A_neq rfl rfl)) ?_
    refine zy ?_
    refine Wo_callV rfl rfl rfl rfl rfl Bod.h rfl rfl (said_sv (RowsAt.ext (R:=TtlR) (fun x _=>x) hY (hE9.trans hE10)) hLY) ?_
    refine zy ?_
    refine Wo_callV rfl rfl rfl rfl rfl Bod.h rfl rfl (said_sv (RowsAt.ext (R:=TtlR) (fun x _=>x) hl ((hE.trans hE9).trans hE10)) hL) ?_
    refine zy ?_
    refine Wo_do rfl rfl rfl rfl (A_ff (by exact fun e=>e hse) (A_neqStr rfl rfl)) ?_
    refine zy ?_
    exact⟨i+1,(by show N-(i+1)<N-i;omega),rfl,hi2,hE9.trans hE10,rfl,rfl,rfl,(by rw[hcn];rfl),rfl,trivial⟩
  have hiN:i=N:=by omega
  subst hiN
  replace hE:=hE.trans hE9
  refine zy ?_
  by_cases h0:Y.length=0
  ·refine Wo_do rfl rfl rfl rfl (A_tt (by omega) (A_eql rfl rfl)) ?_
   refine zy ?_
   refine Wo_callV rfl rfl rfl rfl rfl Bod.h rfl rfl (awake_sv (hTb.ext hE)) ?_
   refine zy ?_
   exact Wc_ret (Lv_ret rfl ⟨rfl,hE⟩)
  obtain⟨bY,oY,oaY,rfl,rowy,hry,hmy⟩:=hY (Y.length-1) (by omega)
  have hlast:=(hYe _ (List.getElem_mem (show Y.length-1<Y.length by omega))).2.2.1
  generalize Y[Y.length-1]'(by omega)=y at *
  obtain rfl:=hmy
  have z1:cellAt h9 bY (oY+(Y.length-1)*3+1)=some (i64 y.b):=hE9.cell (cell_of_row hry rfl)
  refine Wo_do rfl rfl rfl rfl (A_ff (by omega) (A_eql rfl rfl)) ?_
  refine zy ?_
  refine Wo_do rfl rfl rfl rfl (A_indexAddr (k:=Y.length-1) Und.h Tsz.h rfl rfl (by omega) (by omega)) ?_
  refine zy ?_
  refine Wo_do rfl rfl rfl rfl (A_tt hlast (A_lss rfl rfl)) ?_
  refine zy ?_
  refine Wo_callV rfl rfl rfl rfl rfl Bod.h rfl rfl (awake_sv (hTb.ext hE)) ?_
  refine zy ?_
  exact Wc_ret (Lv_ret rfl ⟨rfl,hE⟩)
 by_cases hf:unErr l sp rt=0
 rotate_left
 ·refine zy ?_
  refine Wo_do rfl rfl rfl rfl (A_tt he (A_eql rfl rfl)) ?_
  refine zy ?_
  refine Wo_do rfl rfl rfl rfl (A_ff hf (A_eql rfl rfl)) ?_
  refine zy ?_
  refine Wo_callr rfl rfl rfl rfl rfl Bod.h rfl rfl (scRetime_sv hI (RowsAt.ext (R:=CutR) (fun x _=>x) hcs hE) hcF hcL (RowsAt.ext (R:=TtlR) (fun x _=>x) hl hE) hF hL (hLib.ext hE)) ?_
  rintro _ h7 ⟨hE7,⟨hbad,rfl⟩|⟨hok,va,rfl,hFr⟩⟩
  ·refine zy ?_
   refine Wo_do rfl rfl rfl rfl (A_tt hbad (A_neq rfl rfl)) ?_
   refine zy ?_
   refine Wo_do rfl rfl rfl rfl (A_ff hbad (A_eql rfl rfl)) ?_
   refine zy ?_
   refine Wo_do rfl rfl rfl rfl (A_tt rfl (A_eql rfl rfl)) ?_
   refine zy ?_
   refine Wo_callV rfl rfl rfl rfl rfl Bod.h rfl rfl (awake_sv (hTb.ext (hE.trans hE7))) ?_
   refine zy ?_
   exact Wc_ret (Lv_ret rfl ⟨rfl,hE.trans hE7⟩)
  replace hg1:=hE7.get hg1
  replace hE:=hE.trans hE7
  refine zy ?_
  refine Wo_do rfl rfl rfl rfl (A_ff (by decide) (A_neq rfl rfl)) ?_
  refine zy ?_
  refine Wo_dec rfl rfl rfl rfl (A_gtr rfl rfl) (fun hn4=>?_) (fun hn4=>?_)
  ·refine zy ?_
   refine Wo_do rfl rfl rfl rfl (A_tt rfl (A_eql rfl rfl)) ?_
   refine zy ?_
   refine Wo_callV rfl rfl rfl rfl rfl Bod.h rfl rfl (awake_sv (hTb.ext hE)) ?_
   refine zy ?_
   exact Wc_ret (Lv_ret rfl ⟨rfl,hE⟩)
  obtain⟨hct,hte,hbn⟩:=ret_ok hok
  obtain⟨n1,n2,n3,hco⟩:=cutS_ok hct
  obtain⟨N,rfl⟩:∃N:Nat,n=N:=⟨n.toNat,by omega⟩
  have hcuts:=cuts_each hco
  obtain⟨hl40,htl,hpw⟩:=titles_each hte
  have hYt:=retime_titles (cs:=cs) (N:=N) hte hbn (by omega)
  have hYe:=retime_each (cs:=cs) (N:=N) (fun x hx=>⟨(htl x hx).1,(htl x hx).2.1⟩) hbn
  have hYl:(retimeS cs l).length<=40:=Nat.le_trans (List.length_filterMap_le _ _) hl40
  have hsaid:=fun {i:Nat} {m:Int} (ha:afterC cs (i:Int)=some m)=>said_retime hcuts (l:=l) (fun x hx=>⟨(htl x hx).1,(htl x hx).2.1⟩) ha
  have hYF:∀y∈retimeS cs l,y.Fit:=fun y hy=>by
   obtain⟨g1,g2,g3,x,hx,g4⟩:=hYe y hy
   have:=cntC_le cs N
   exact⟨⟨by omega,by omega⟩,⟨by omega,by omega⟩,by rw[g4];exact (hF x hx).text⟩
  obtain⟨aY,cY,rfl,hY⟩:=ttRows_at hFr
  clear hFr hE7
  generalize retimeS cs l=Y at *
  have hLY:Len Y:=by unfold Len;omega
  refine zy ?_
  refine Wo_callE rfl rfl rfl rfl rfl Bod.h rfl rfl (scWrite_sv hY hYF hLY (hLib.ext hE) (hPow.ext hE)) fun h8 hE8=>?_
  rw[hYt]
  replace hg1:=hE8.get hg1
  replace hE:=hE.trans hE8
  replace hY:RowsAt 3 TtlR h8 aY Y:=RowsAt.ext (R:=TtlR) (fun x _=>x) hY hE8
  clear hE8
  refine zy ?_
  refine Wo_do rfl rfl rfl rfl (A_ff (by decide) (A_neq rfl rfl)) ?_
  refine zy ?_
  refine Wc_loop (fun (i:Nat) m ds h'=>ds=[]/\i<=N/\Ext h8 h'/\AllK m [(0,.slice al l.length cl),(4,.pointer (some ⟨b1,0,none⟩)),(13,.slice aY Y.length cY),(14,i64 (cntC cs i:Nat)),(15,i64 (i:Nat))]) (fun i=>N-i) 0 ?_ ?_
  ·exact⟨rfl,Nat.zero_le _,Ext.refl _,rfl,rfl,rfl,rfl,rfl,trivial⟩
  rintro i m ds h9 ⟨rfl,hi,hE9,hall⟩
  replace hg1:=hE9.get hg1
  refine Wc.le ?_ (Le.kn hall)
  clear hall
  refine zy ?_
  refine Wo_dec rfl rfl rfl rfl (A_lss rfl rfl) (fun hi1=>?_) (fun hi1=>?_)
  ·have hi2:i<N:=by omega
   have hiI:I64 (i:Int):=⟨by omega,by omega⟩
   refine zy ?_
   refine Wo_callE rfl rfl rfl rfl rfl Bod.h rfl rfl (after_sv (i:=(i:Int)) hI hiI (RowsAt.ext (R:=CutR) (fun x _=>x) hcs (hE.trans hE9)) hcF hcL) fun h10 hE10=>?_
   have hav:=after_at (n:=(N:Int)) (i:=(i:Int)) hct (by omega) (by omega)
   have hcn:=cntC_succ cs i
   rw[hav]
   cases hq:afterC cs (i:Int) with
   | none =>
    rw[hq] at hcn
    refine zy ?_
    refine Wo_do rfl rfl rfl rfl (A_tt (show (4:Int)≠0 from by decide) (A_neq rfl rfl)) ?_
    refine zy ?_
    exact⟨i+1,(by show N-(i+1)<N-i;omega),rfl,hi2,hE9.trans hE10,rfl,rfl,rfl,(by rw[hcn];rfl),rfl,trivial⟩
   | some v =>
    rw[hq] at hcn
    have hv:=after_cnt hcuts hq
    have hse:=hsaid hq
    have hci:=cntC_le cs i
    refine zy ?_
    refine Wo_do rfl rfl rfl rfl (A_ff (by exact fun e=>e rfl) (A_neq rfl rfl)) ?_
    refine zy ?_
    refine Wo_do rfl rfl rfl rfl (A_ff (by exact fun e=>e hv) (A_neq rfl rfl)) ?_
    refine zy ?_
    refine Wo_callV rfl rfl rfl rfl rfl Bod.h rfl rfl (said_sv (RowsAt.ext (R:=TtlR) (fun x _=>x) hY (hE9.trans hE10)) hLY) ?_
    refine zy ?_
    refine Wo_callV rfl rfl rfl rfl rfl Bod.h rfl rfl (said_sv (RowsAt.ext (R:=TtlR) (fun x _=>x) hl ((hE.trans hE9).trans hE10)) hL) ?_
    refine zy ?_
    refine Wo_do rfl rfl rfl rfl (A_ff (by exact fun e=>e hse) (A_neqStr rfl rfl)) ?_
    refine zy ?_
    exact⟨i+1,(by show N-(i+1)<N-i;omega),rfl,hi2,hE9.trans hE10,rfl,rfl,rfl,(by rw[hcn];rfl),rfl,trivial⟩
  have hiN:i=N:=by omega
  subst hiN
  replace hE:=hE.trans hE9
  refine zy ?_
  by_cases h0:Y.length=0
  ·refine Wo_do rfl rfl rfl rfl (A_tt (by omega) (A_eql rfl rfl)) ?_
   refine zy ?_
   refine Wo_callV rfl rfl rfl rfl rfl Bod.h rfl rfl (awake_sv (hTb.ext hE)) ?_
   refine zy ?_
   exact Wc_ret (Lv_ret rfl ⟨rfl,hE⟩)
  obtain⟨bY,oY,oaY,rfl,rowy,hry,hmy⟩:=hY (Y.length-1) (by omega)
  have hlast:=(hYe _ (List.getElem_mem (show Y.length-1<Y.length by omega))).2.2.1
  generalize Y[Y.length-1]'(by omega)=y at *
  obtain rfl:=hmy
  have z1:cellAt h9 bY (oY+(Y.length-1)*3+1)=some (i64 y.b):=hE9.cell (cell_of_row hry rfl)
  refine Wo_do rfl rfl rfl rfl (A_ff (by omega) (A_eql rfl rfl)) ?_
  refine zy ?_
  refine Wo_do rfl rfl rfl rfl (A_indexAddr (k:=Y.length-1) Und.h Tsz.h rfl rfl (by omega) (by omega)) ?_
  refine zy ?_
  refine Wo_do rfl rfl rfl rfl (A_tt hlast (A_lss rfl rfl)) ?_
  refine zy ?_
  refine Wo_callV rfl rfl rfl rfl rfl Bod.h rfl rfl (awake_sv (hTb.ext hE)) ?_
  refine zy ?_
  exact Wc_ret (Lv_ret rfl ⟨rfl,hE⟩)
 obtain⟨hsp,hrt⟩:=hin he
 obtain⟨hte0,-⟩:=unErr_ok he
 have heach:=(titles_each hte0).2.1
 have hl400:=(titles_each hte0).1
 have hsub:=unread_less (l:=l) (fun x hx=>(heach x hx).2.1) hsp hrt
 have hltA:=unread_lt l speed rate
 have hltB:=unread_lt l sp rt
 have hlA:=unL_len l speed rate
 have hlB:=unL_len l sp rt
 have eA:unL l speed rate=(unreadS l speed rate).map fun n:Nat=>(n:Int):=by unfold unL;rw[if_pos he]
 have eB:unL l sp rt=(unreadS l sp rt).map fun n:Nat=>(n:Int):=by unfold unL;rw[if_pos hf]
 rw[eA] at hA hlA ⊢
 rw[eB] at hB hlB ⊢
 rw[he,hf]
 clear eA eB hin hsp hrt hs' hr' heach
 generalize unreadS l speed rate=A at *
 generalize unreadS l sp rt=B at *
 refine zy ?_
 refine Wo_do rfl rfl rfl rfl (A_tt rfl (A_eql rfl rfl)) ?_
 refine zy ?_
 refine Wo_do rfl rfl rfl rfl (A_tt rfl (A_eql rfl rfl)) ?_
 rw[List.length_map] at hlA hlB
 refine zy ?_
 refine Wc_loop (fun (q:Nat×Nat) m ds h'=>ds=[]/\h6=h'/\q.1<=B.length/\(∀i j (hi:i<B.length) (hj:j<A.length),q.1<=i->A[j]=B[i]->q.2<=j)/\AllK m [(0,.slice al l.length cl),(4,.pointer (some ⟨b1,0,none⟩)),(7,.slice aA (A.map fun n:Nat=>(n:Int)).length cA),(9,.slice aB (B.map fun n:Nat=>(n:Int)).length cB),(11,i64 (q.2:Nat)),(12,i64 (q.1:Nat))]) (fun q=>B.length-q.1) (0,0) ?_ ?_
 ·exact⟨rfl,rfl,Nat.zero_le _,fun _ _ _ _ _ _=>Nat.zero_le _,rfl,rfl,rfl,rfl,rfl,rfl,trivial⟩
 rintro⟨i,k⟩ m ds h' ⟨rfl,rfl,hi,hpos,hall⟩
 simp only at hi hpos hall
 refine Wc.le ?_ (Le.kn hall)
 clear hall
 have hmA:(A.map fun n:Nat=>(n:Int)).length=A.length:=List.length_map _
 have hmB:(B.map fun n:Nat=>(n:Int)).length=B.length:=List.length_map _
 refine zy ?_
 refine Wo_dec rfl rfl rfl rfl (A_lss rfl rfl) (fun hlt=>?_) (fun hlt=>?_)
 rotate_left
 ·clear hpos hlt
  refine zy ?_
  refine Wo_callr rfl rfl rfl rfl rfl Bod.h rfl rfl (scRetime_sv hI (RowsAt.ext (R:=CutR) (fun x _=>x) hcs hE) hcF hcL (RowsAt.ext (R:=TtlR) (fun x _=>x) hl hE) hF hL (hLib.ext hE)) ?_
  rintro _ h7 ⟨hE7,⟨hbad,rfl⟩|⟨hok,va,rfl,hFr⟩⟩
  ·refine zy ?_
   refine Wo_do rfl rfl rfl rfl (A_tt hbad (A_neq rfl rfl)) ?_
   refine zy ?_
   refine Wo_do rfl rfl rfl rfl (A_ff hbad (A_eql rfl rfl)) ?_
   refine zy ?_
   refine Wo_do rfl rfl rfl rfl (A_tt rfl (A_eql rfl rfl)) ?_
   refine zy ?_
   refine Wo_callV rfl rfl rfl rfl rfl Bod.h rfl rfl (awake_sv (hTb.ext (hE.trans hE7))) ?_
   refine zy ?_
   exact Wc_ret (Lv_ret rfl ⟨rfl,hE.trans hE7⟩)
  replace hg1:=hE7.get hg1
  replace hE:=hE.trans hE7
  refine zy ?_
  refine Wo_do rfl rfl rfl rfl (A_ff (by decide) (A_neq rfl rfl)) ?_
  refine zy ?_
  refine Wo_dec rfl rfl rfl rfl (A_gtr rfl rfl) (fun hn4=>?_) (fun hn4=>?_)
  ·refine zy ?_
   refine Wo_do rfl rfl rfl rfl (A_tt rfl (A_eql rfl rfl)) ?_
   refine zy ?_
   refine Wo_callV rfl rfl rfl rfl rfl Bod.h rfl rfl (awake_sv (hTb.ext hE)) ?_
   refine zy ?_
   exact Wc_ret (Lv_ret rfl ⟨rfl,hE⟩)
  obtain⟨hct,hte,hbn⟩:=ret_ok hok
  obtain⟨n1,n2,n3,hco⟩:=cutS_ok hct
  obtain⟨N,rfl⟩:∃N:Nat,n=N:=⟨n.toNat,by omega⟩
  have hcuts:=cuts_each hco
  obtain⟨hl40,htl,hpw⟩:=titles_each hte
  have hYt:=retime_titles (cs:=cs) (N:=N) hte hbn (by omega)
  have hYe:=retime_each (cs:=cs) (N:=N) (fun x hx=>⟨(htl x hx).1,(htl x hx).2.1⟩) hbn
  have hYl:(retimeS cs l).length<=40:=Nat.le_trans (List.length_filterMap_le _ _) hl40
  have hsaid:=fun {i:Nat} {m:Int} (ha:afterC cs (i:Int)=some m)=>said_retime hcuts (l:=l) (fun x hx=>⟨(htl x hx).1,(htl x hx).2.1⟩) ha
  have hYF:∀y∈retimeS cs l,y.Fit:=fun y hy=>by
   obtain⟨g1,g2,g3,x,hx,g4⟩:=hYe y hy
   have:=cntC_le cs N
   exact⟨⟨by omega,by omega⟩,⟨by omega,by omega⟩,by rw[g4];exact (hF x hx).text⟩
  obtain⟨aY,cY,rfl,hY⟩:=ttRows_at hFr
  clear hFr hE7
  generalize retimeS cs l=Y at *
  have hLY:Len Y:=by unfold Len;omega
  refine zy ?_
  refine Wo_callE rfl rfl rfl rfl rfl Bod.h rfl rfl (scWrite_sv hY hYF hLY (hLib.ext hE) (hPow.ext hE)) fun h8 hE8=>?_
  rw[hYt]
  replace hg1:=hE8.get hg1
  replace hE:=hE.trans hE8
  replace hY:RowsAt 3 TtlR h8 aY Y:=RowsAt.ext (R:=TtlR) (fun x _=>x) hY hE8
  clear hE8
  refine zy ?_
  refine Wo_do rfl rfl rfl rfl (A_ff (by decide) (A_neq rfl rfl)) ?_
  refine zy ?_
  refine Wc_loop (fun (i:Nat) m ds h'=>ds=[]/\i<=N/\Ext h8 h'/\AllK m [(0,.slice al l.length cl),(4,.pointer (some ⟨b1,0,none⟩)),(13,.slice aY Y.length cY),(14,i64 (cntC cs i:Nat)),(15,i64 (i:Nat))]) (fun i=>N-i) 0 ?_ ?_
  ·exact⟨rfl,Nat.zero_le _,Ext.refl _,rfl,rfl,rfl,rfl,rfl,trivial⟩
  rintro i m ds h9 ⟨rfl,hi,hE9,hall⟩
  replace hg1:=hE9.get hg1
  refine Wc.le ?_ (Le.kn hall)
  clear hall
  refine zy ?_
  refine Wo_dec rfl rfl rfl rfl (A_lss rfl rfl) (fun hi1=>?_) (fun hi1=>?_)
  ·have hi2:i<N:=by omega
   have hiI:I64 (i:Int):=⟨by omega,by omega⟩
   refine zy ?_
   refine Wo_callE rfl rfl rfl rfl rfl Bod.h rfl rfl (after_sv (i:=(i:Int)) hI hiI (RowsAt.ext (R:=CutR) (fun x _=>x) hcs (hE.trans hE9)) hcF hcL) fun h10 hE10=>?_
   have hav:=after_at (n:=(N:Int)) (i:=(i:Int)) hct (by omega) (by omega)
   have hcn:=cntC_succ cs i
   rw[hav]
   cases hq:afterC cs (i:Int) with
   | none =>
    rw[hq] at hcn
    refine zy ?_
    refine Wo_do rfl rfl rfl rfl (A_tt (show (4:Int)≠0 from by decide) (A_neq rfl rfl)) ?_
    refine zy ?_
    exact⟨i+1,(by show N-(i+1)<N-i;omega),rfl,hi2,hE9.trans hE10,rfl,rfl,rfl,(by rw[hcn];rfl),rfl,trivial⟩
   | some v =>
    rw[hq] at hcn
    have hv:=after_cnt hcuts hq
    have hse:=hsaid hq
    have hci:=cntC_le cs i
    refine zy ?_
    refine Wo_do rfl rfl rfl rfl (A_ff (by exact fun e=>e rfl) (A_neq rfl rfl)) ?_
    refine zy ?_
    refine Wo_do rfl rfl rfl rfl (A_ff (by exact fun e=>e hv) (A_neq rfl rfl)) ?_
    refine zy ?_
    refine Wo_callV rfl rfl rfl rfl rfl Bod.h rfl rfl (said_sv (RowsAt.ext (R:=TtlR) (fun x _=>x) hY (hE9.trans hE10)) hLY) ?_
    refine zy ?_
    refine Wo_callV rfl rfl rfl rfl rfl Bod.h rfl rfl (said_sv (RowsAt.ext (R:=TtlR) (fun x _=>x) hl ((hE.trans hE9).trans hE10)) hL) ?_
    refine zy ?_
    refine Wo_do rfl rfl rfl rfl (A_ff (by exact fun e=>e hse) (A_neqStr rfl rfl)) ?_
    refine zy ?_
    exact⟨i+1,(by show N-(i+1)<N-i;omega),rfl,hi2,hE9.trans hE10,rfl,rfl,rfl,(by rw[hcn];rfl),rfl,trivial⟩
  have hiN:i=N:=by omega
  subst hiN
  replace hE:=hE.trans hE9
  refine zy ?_
  by_cases h0:Y.length=0
  ·refine Wo_do rfl rfl rfl rfl (A_tt (by omega) (A_eql rfl rfl)) ?_
   refine zy ?_
   refine Wo_callV rfl rfl rfl rfl rfl Bod.h rfl rfl (awake_sv (hTb.ext hE)) ?_
   refine zy ?_
   exact Wc_ret (Lv_ret rfl ⟨rfl,hE⟩)
  obtain⟨bY,oY,oaY,rfl,rowy,hry,hmy⟩:=hY (Y.length-1) (by omega)
  have hlast:=(hYe _ (List.getElem_mem (show Y.length-1<Y.length by omega))).2.2.1
  generalize Y[Y.length-1]'(by omega)=y at *
  obtain rfl:=hmy
  have z1:cellAt h9 bY (oY+(Y.length-1)*3+1)=some (i64 y.b):=hE9.cell (cell_of_row hry rfl)
  refine Wo_do rfl rfl rfl rfl (A_ff (by omega) (A_eql rfl rfl)) ?_
  refine zy ?_
  refine Wo_do rfl rfl rfl rfl (A_indexAddr (k:=Y.length-1) Und.h Tsz.h rfl rfl (by omega) (by omega)) ?_
  refine zy ?_
  refine Wo_do rfl rfl rfl rfl (A_tt hlast (A_lss rfl rfl)) ?_
  refine zy ?_
  refine Wo_callV rfl rfl rfl rfl rfl Bod.h rfl rfl (awake_sv (hTb.ext hE)) ?_
  refine zy ?_
  exact Wc_ret (Lv_ret rfl ⟨rfl,hE⟩)
 have hi':i<B.length:=by omega
 obtain⟨j,hj,hje⟩:=List.getElem_of_mem (hsub.subset (List.getElem_mem hi'))
 have hkj:=hpos i j hi' hj (Nat.le_refl _) hje
 obtain⟨bB,oB,oaB,rfl,hcB⟩:=hB i (by omega)
 obtain⟨bA,oA,oaA,rfl,-⟩:=hA j (by omega)
 have zB:cellAt h6 bB (oB+i*1)=some (i64 (B[i]:Nat)):=by rw[List.getElem_map] at hcB;exact hcB
 clear hcB
 have hltj:∀z (hz:z<j),(A[z]'(by omega))<A[j]:=fun z hz=>List.pairwise_iff_getElem.1 hltA z j (by omega) hj hz
 refine zy ?_
 refine Wc_loop (fun (z:Nat) m ds h'=>ds=[]/\h6=h'/\z<=j/\AllK m [(0,.slice al l.length cl),(4,.pointer (some ⟨b1,0,none⟩)),(7,.slice (some ⟨bA,oA,oaA⟩) (A.map fun n:Nat=>(n:Int)).length cA),(9,.slice (some ⟨bB,oB,oaB⟩) (B.map fun n:Nat=>(n:Int)).length cB),(11,i64 (z:Nat)),(12,i64 (i:Nat))]) (fun z=>j-z) k ?_ ?_
 ·exact⟨rfl,rfl,hkj,rfl,rfl,rfl,rfl,rfl,rfl,trivial⟩
 rintro z m ds h' ⟨rfl,rfl,hzj,hall⟩
 refine Wc.le ?_ (Le.kn hall)
 clear hall
 have hzA:z<A.length:=by omega
 obtain⟨bA',oA',oaA',eA',hcA⟩:=hA z (by omega)
 cases eA'
 have zA:cellAt h6 bA (oA+z*1)=some (i64 (A[z]:Nat)):=by rw[List.getElem_map] at hcA;exact hcA
 clear hcA
 refine zy ?_
 by_cases hz:z<j
 ·have hbz:=hltj z hz
  refine Wc_draw hmix [0,0,2,7,15,31,31,127,255,31,31,1567,3615,8191,16383] [0,1,2,3,4,5,6,7,8,9,10,11,12,13,14] none [] (by kernel_rfl) (by kernel_rfl) ?_
  refine z_m ?_;refine z_m ?_;refine z_c ?_;refine Wp_pure rfl rfl rfl rfl rfl (fun _=>A_tt (by omega) (A_lss rfl rfl)) ?_;refine z_m ?_;refine g_m ?_;refine g_m ?_
  first|refine Wp_off rfl rfl rfl rfl ?_|refine Wp_pure rfl rfl rfl rfl rfl (fun _=>A_indexAddr (k:=z) Und.h Tsz.h rfl rfl rfl (by omega)) ?_
  refine g_l ?_;refine g_m ?_;refine g_m ?_
  first|refine Wp_off rfl rfl rfl rfl ?_|refine Wp_pure rfl rfl rfl rfl rfl (fun _=>A_indexAddr (k:=i) Und.h Tsz.h rfl rfl rfl (by omega)) ?_
  refine g_l ?_
  first|refine Wp_off rfl rfl rfl rfl ?_|refine Wp_pure rfl rfl rfl rfl rfl (fun _=>A_tt (by omega) (A_lss rfl rfl)) ?_
  refine z_p ?_
  refine Wp_end (Stl_nil rfl) nb' ?_
  refine zy ?_
  exact⟨z+1,(by show j-(z+1)<j-z;omega),rfl,rfl,hz,rfl,rfl,rfl,rfl,rfl,rfl,trivial⟩
 have hzj':z=j:=by omega
 subst hzj'
 refine Wc_draw hmix [0,0,2,7,15,31,31,127,255,31,31,1567,3615,8191,16383] [0,1,2,3,4,5,6,7,8,9,10,11,12,13,14] none [] (by kernel_rfl) (by kernel_rfl) ?_
 refine z_m ?_;refine z_m ?_;refine z_c ?_;refine Wp_pure rfl rfl rfl rfl rfl (fun _=>A_tt (by omega) (A_lss rfl rfl)) ?_;refine z_m ?_;refine g_m ?_;refine g_m ?_
 first|refine Wp_off rfl rfl rfl rfl ?_|refine Wp_pure rfl rfl rfl rfl rfl (fun _=>A_indexAddr (k:=z) Und.h Tsz.h rfl rfl rfl (by omega)) ?_
 refine g_l ?_;refine g_m ?_;refine g_m ?_
 first|refine Wp_off rfl rfl rfl rfl ?_|refine Wp_pure rfl rfl rfl rfl rfl (fun _=>A_indexAddr (k:=i) Und.h Tsz.h rfl rfl rfl (by omega)) ?_
 refine g_l ?_
 first|refine Wp_off rfl rfl rfl rfl ?_|refine Wp_pure rfl rfl rfl rfl rfl (fun _=>A_ff (by omega) (A_lss rfl rfl)) ?_
 refine z_p ?_
 refine Wp_end (Stl_nil rfl) nb' ?_
 refine zy ?_
 refine Wc_draw hmix [0,0,2,7,15,31,31,127,255,31,31,1567,3615,8191,16383] [0,1,2,3,4,5,6,7,8,9,10,11,12,13,14] none [] (by kernel_rfl) (by kernel_rfl) ?_
 refine z_m ?_;refine z_m ?_;refine z_c ?_;refine Wp_pure rfl rfl rfl rfl rfl (fun _=>A_ff (by omega) (A_eql rfl rfl)) ?_;refine z_m ?_;refine g_m ?_;refine g_m ?_
 first|refine Wp_off rfl rfl rfl rfl ?_|refine Wp_pure rfl rfl rfl rfl rfl (fun _=>A_indexAddr (k:=z) Und.h Tsz.h rfl rfl rfl (by omega)) ?_
 refine g_l ?_;refine g_m ?_;refine g_m ?_
 first|refine Wp_off rfl rfl rfl rfl ?_|refine Wp_pure rfl rfl rfl rfl rfl (fun _=>A_indexAddr (k:=i) Und.h Tsz.h rfl rfl rfl (by omega)) ?_
 refine g_l ?_
 first|refine Wp_off rfl rfl rfl rfl ?_|refine Wp_pure rfl rfl rfl rfl rfl (fun _=>A_ff (by omega) (A_neq rfl rfl)) ?_
 refine z_p ?_
 refine Wp_end (Stl_nil rfl) nb' ?_
 refine zy ?_
 refine⟨(i+1,z),(by show B.length-(i+1)<B.length-i;omega),rfl,rfl,hi',?_,rfl,rfl,rfl,rfl,rfl,rfl,trivial⟩
 intro i2 j2 hi2 hj2 hle he2
 have h12:=List.pairwise_iff_getElem.1 hltB i i2 hi' hi2 (by omega)
 exact Classical.byContradiction fun hn=>by
  have:=hltj j2 (by omega)
  omega
end Go.Dw
