/- H1: parts of slices of records; the reference's list of keys that is looked through. -/
import Derived.Test.YthlmgoefjmlndaaGreatDoorYG2
import Derived.Test.YthlmgoefjmlndaaGreatDoorYG19
import Derived.Test.YthlmgoefjmlndaaGreatDoorYG8
import Derived.Test.YthlmgoefjmlndaaGreatDoorYG18
set_option linter.unusedVariables false
set_option linter.unusedSimpArgs false
namespace Go.Dw
open Go Go.Dx Go.Proofs
set_option maxRecDepth 100000
section
variable {P:Program}{m:Mem}{h:Heap}{d:Option Tmp}{ty:TypeId}{pos:String}{af:Array Edge}{gu:Option (Nat×Bool)}
theorem ZMW {t el:TypeId}{sz:Nat}{x j:Operand}{kj:IntKind}(ht:P.underlying t=some (.slice el))(hz:tsz P el=some sz)(hx:opk h m x=some (.slice none 0 0))(hj:opk h m j=some (.int kj 0)):Aop P ⟨d,.slice t x none (some j) none,ty,pos,af,gu⟩ m h (.slice none 0 0) h:=by
 refine ZEo hx hj rfl rfl rfl fun ev w h1 h2=>?_;have hsb:sb 0 0 none (some (.int kj 0)) none=some (0,0,0):=rfl;obtain⟨hrun,_,hm0,_⟩:=ZJv (P:=P) (ι:=fun _=>none) (lo':=none) (hi':=some (.int kj 0)) (mx':=none) .none (.some (.int kj 0)) .none hsb (Nat.le_refl _) true w;simp only[execOp,h1,h2,Option.map_some,Option.map_none,Instr.sliceAt,Instr.slice,Sem.run_bind,run_underlying ht,Result.andThen_ok,hrun,Dx.run_sizeOf hz,Sem.run_pure]
 rfl
theorem ZIf {t el:TypeId}{sz:Nat}{x j:Operand}{kj:IntKind}(ht:P.underlying t=some (.slice el))(hz:tsz P el=some sz)(hx:opk h m x=some (.slice none 0 0))(hj:opk h m j=some (.int kj 0)):Aop P ⟨d,.slice t x (some j) none none,ty,pos,af,gu⟩ m h (.slice none 0 0) h:=by
 refine ZEo hx hj rfl rfl rfl fun ev w h1 h2=>?_;have hsb:sb 0 0 (some (.int kj 0)) none none=some (0,0,0):=rfl;obtain⟨hrun,_,hm0,_⟩:=ZJv (P:=P) (ι:=fun _=>none) (lo':=some (.int kj 0)) (hi':=none) (mx':=none) (.some (.int kj 0)) .none .none hsb (Nat.le_refl _) true w;simp only[execOp,h1,h2,Option.map_some,Option.map_none,Instr.sliceAt,Instr.slice,Sem.run_bind,run_underlying ht,Result.andThen_ok,hrun,Dx.run_sizeOf hz,Sem.run_pure]
 rfl
end
theorem ZNa {α:Type}{enc:α->List Value}{k:Nat}(hk:∀x,(enc x).length=k)(L:List α){i:Nat}(hi:i<=L.length):(L.flatMap enc).take (i*k)=(L.take i).flatMap enc:=by
 have e:L.flatMap enc=(L.take i).flatMap enc++(L.drop i).flatMap enc:=by rw[<-List.flatMap_append,List.take_append_drop]
 rw[e];exact List.take_left' (by rw[ZAr hk,List.length_take,Nat.min_eq_left hi])
theorem ZNo {α:Type}{enc:α->List Value}{k:Nat}(hk:∀x,(enc x).length=k)(L:List α){i:Nat}(hi:i<=L.length):(L.flatMap enc).drop (i*k)=(L.drop i).flatMap enc:=by
 have e:L.flatMap enc=(L.take i).flatMap enc++(L.drop i).flatMap enc:=by rw[<-List.flatMap_append,List.take_append_drop]
 rw[e];exact List.drop_left' (by rw[ZAr hk,List.length_take,Nat.min_eq_left hi])
theorem ZTZ {h0 h:Heap}{v:Value}{L:List WkR}{i:Nat}(hF:ZAA h0 h v 44 6 (L.flatMap rowW) L.length)(hn:L=[]->v=.slice none 0 0)(hi:i<=L.length):∃v',(∀h1 h0',ZAA h0' h1 v 44 6 (L.flatMap rowW) L.length->asrc Tryz.prog 44 6 22 v' h1=some (i,(L.take i).flatMap rowW))/\∀{h':Heap}{m:Mem}{d:Option Tmp}{ty:TypeId}{pos:String}{af:Array Edge}{gu:Option (Nat×Bool)}{x j:Operand},opk h' m x=some v->opk h' m j=some (i64 (i:Int))->Aop Tryz.prog ⟨d,.slice 22 x none (some j) none,ty,pos,af,gu⟩ m h' v' h':=by
 rcases Nat.eq_zero_or_pos L.length with hz|hpos
 ·have hL:L=[]:=List.eq_nil_of_length_eq_zero hz
  subst hL;obtain rfl:i=0:=Nat.le_zero.1 hi;obtain rfl:=hn rfl;exact⟨.slice none 0 0,fun h1 h0' hF1=>hF1.src (dd:=.slice 44) Und.h (by intro k;simp),fun hx hj=>ZMW Und.h Tsz.h hx hj⟩
 ·obtain⟨w1,hz1,hA1⟩:=ZOA (P:=Tryz.prog) (ki:=.i64) (t:=22) (tX:=22) (dd:=.slice 44) (z:=5) hF hpos Und.h Tsz.h Und.h (by intro k;simp) hi
  rw[ZNa (enc:=rowW) (k:=5+1) (fun _=>rfl) L hi] at hz1;exact⟨w1,hz1,hA1⟩
theorem ZQt {h0 h:Heap}{v:Value}{L:List WkR}{i:Nat}(hF:ZAA h0 h v 44 6 (L.flatMap rowW) L.length)(hn:L=[]->v=.slice none 0 0)(hi:i<=L.length):∃v',(∀h1 h0',ZAA h0' h1 v 44 6 (L.flatMap rowW) L.length->asrc Tryz.prog 44 6 22 v' h1=some (L.length-i,(L.drop i).flatMap rowW))/\∀{h':Heap}{m:Mem}{d:Option Tmp}{ty:TypeId}{pos:String}{af:Array Edge}{gu:Option (Nat×Bool)}{x j:Operand},opk h' m x=some v->opk h' m j=some (i64 (i:Int))->Aop Tryz.prog ⟨d,.slice 22 x (some j) none none,ty,pos,af,gu⟩ m h' v' h':=by
 rcases Nat.eq_zero_or_pos L.length with hz|hpos
 ·have hL:L=[]:=List.eq_nil_of_length_eq_zero hz
  subst hL;obtain rfl:i=0:=Nat.le_zero.1 hi;obtain rfl:=hn rfl;exact⟨.slice none 0 0,fun h1 h0' hF1=>hF1.src (dd:=.slice 44) Und.h (by intro k;simp),fun hx hj=>ZIf Und.h Tsz.h hx hj⟩
 ·obtain⟨w1,hz1,hA1⟩:=ZKM (P:=Tryz.prog) (ki:=.i64) (t:=22) (tX:=22) (dd:=.slice 44) (z:=5) hF hpos Und.h Tsz.h Und.h (by intro k;simp) hi
  rw[ZNo (enc:=rowW) (k:=5+1) (fun _=>rfl) L hi] at hz1;exact⟨w1,hz1,hA1⟩
theorem ZPY {x:WkR}:∀{L:List WkR}{i:Nat},i<=L.length->(∀j (hj:j<L.length),j<i->ltW L[j] x)->(∀h:i<L.length,¬ltW L[i] x)->insU ltW x L=if ∃h:i<L.length,L[i]=x then L else L.take i++x::L.drop i
 | [],i,hi,_,_=>by
  obtain rfl:i=0:=Nat.le_zero.1 hi;rw[if_neg (fun ⟨h,_⟩=>absurd h (Nat.not_lt_zero _))]
  rfl
 | y::L,0,_,_,h2=>by
  have:¬ltW y x:=h2 (Nat.zero_lt_succ _);rw[insU,if_neg this]
  by_cases e:y=x
  ·rw[if_pos e,if_pos ⟨Nat.zero_lt_succ _,e⟩]
  ·rw[if_neg e,if_neg (fun ⟨_,q⟩=>e q)];rfl
 | y::L,i+1,hi,h1,h2=>by
  have hy:ltW y x:=h1 0 (Nat.zero_lt_succ _) (Nat.zero_lt_succ _);rw[insU,if_pos hy,ZPY (L:=L) (i:=i) (Nat.le_of_succ_le_succ hi) (fun j hj hlt=>h1 (j+1) (Nat.succ_lt_succ hj) (Nat.succ_lt_succ hlt)) (fun h=>h2 (Nat.succ_lt_succ h))]
  by_cases e:∃h:i<L.length,L[i]=x
  ·obtain⟨h,q⟩:=e
   rw[if_pos ⟨h,q⟩,if_pos ⟨Nat.succ_lt_succ h,q⟩]
  ·rw[if_neg e,if_neg (fun ⟨h,q⟩=>e ⟨Nat.lt_of_succ_lt_succ h,q⟩)]
   rfl
theorem ZCd {a:Option Addr}{cap:Nat}{l:List Key}{k:Key}{h:Heap}(hR:ZAs 2 (fun _ row x=>row=rowK x) h a l)(hlen:Len l):Sv Tryz.prog 107 [.slice a l.length cap,.agg ⟨rowK k⟩] h (RetP fun v h'=>v=.bool (decide (k∈l))/\Ext h h'):=by
 refine ZAG Tryz.func107 rfl (by rw[Tryz.ntmps107];rfl) ?_;show Wc Tryz.prog ⟨107,18,none⟩ _ _ _ _ _;refine zy ?_;refine ZBO rfl rfl rfl fun h1 hE1 hW1 hg1 hn1=>?_;generalize h.nx=b1 at hg1 ⊢;refine zy ?_;refine ZAQ (fun (j:Nat) m ds h'=>ds=[]/\h1=h'/\j<=l.length/\k ∉ l.take j/\AllK m [(0,.slice a l.length cap),(3,.pointer (some ⟨b1,0,none⟩)),(5,i64 (j:Nat))]) (fun j=>l.length-j) 0 ?_ ?_
 ·exact⟨rfl,rfl,Nat.zero_le _,by simp,rfl,rfl,rfl,trivial⟩
 rintro j m ds h' ⟨rfl,rfl,hj,hno,hall⟩;refine Wc.le ?_ (Le.kn hall);clear hall;refine zy ?_;refine ZAN rfl rfl rfl rfl (ZAY rfl rfl) (fun hjl=>?_) (fun hjl=>?_);rotate_left
 ·refine zy ?_
  have:j=l.length:=by omega
  subst this;rw[List.take_length] at hno;exact ZAE (ZAF rfl ⟨by rw[decide_eq_false hno];rfl,hE1⟩)
 have hj':j<l.length:=by omega
 obtain⟨b,o,oa,rfl,row,hr0,hx⟩:=hR j hj';have hr:=hE1.row hr0;have e1:row=rowK l[j]:=hx;have htk:l.take (j+1)=l.take j++[l[j]]:=by rw[List.take_add_one,List.getElem?_eq_getElem hj'];rfl
 have hmem:l[j]∈l:=List.getElem_mem hj';clear hx hr0;generalize l[j]=x at *;subst e1
 by_cases he:x=k
 ·subst he
  refine zy ?_;refine ZAM hmix [0,0,3,7,0,31] [0,1,2,3,4,5] none [] (by kernel_rfl) (by kernel_rfl) ?_;refine z_m ?_;refine z_m ?_;refine ZAB rfl rfl rfl rfl rfl (fun _=>A_ix (k:=j) Und.h Tsz.h rfl rfl) ?_;refine z_r ?_;refine z_r ?_;refine ZAB rfl rfl rfl rfl rfl (fun _=>A_tt rfl (ZED keyK (a:=x) (b:=x) rfl rfl keyG rfl rfl)) ?_;refine ZAT (ZAC rfl) nb' ?_;refine zy ?_;exact ZAE (ZAF rfl ⟨by rw[decide_eq_true hmem];rfl,hE1⟩)
 ·refine zy ?_
  refine ZAM hmix [0,0,3,7,0,31] [0,1,2,3,4,5] none [] (by kernel_rfl) (by kernel_rfl) ?_;refine z_m ?_;refine z_m ?_;refine ZAB rfl rfl rfl rfl rfl (fun _=>A_ix (k:=j) Und.h Tsz.h rfl rfl) ?_;refine z_r ?_;refine z_r ?_;refine ZAB rfl rfl rfl rfl rfl (fun _=>A_ff he (ZED keyK (a:=x) (b:=k) rfl rfl keyG rfl rfl)) ?_;refine ZAT (ZAC rfl) nb' ?_;refine zy ?_;refine⟨j+1,(by show l.length-(j+1)<l.length-j;omega),rfl,rfl,hj',?_,rfl,rfl,rfl,trivial⟩;rw[htk,List.mem_append,List.mem_singleton];rintro (q|q)
  ·exact hno q
  ·exact he q.symm
end Go.Dw
namespace Go.Dw
open Go Go.Dx Go.Proofs
set_option maxRecDepth 100000
set_option maxHeartbeats 2000000 in
theorem ZPX {a:Option Addr}{cap:Nat}{l:List WkR}{h:Heap}(hR:ZDC h a l)(hlen:l.length<=1000000) :
  Sv Tryz.prog 89 [.slice a l.length cap] h (RetP fun v h'=>ZAA h h' v 44 6 ((mrgU ltW l).flatMap rowW) (mrgU ltW l).length/\Ext h h'):=by
 refine ZC9 fun hw=>?_;refine ZAG Tryz.func89 rfl (by rw[Tryz.ntmps89];rfl) ?_;show Wc Tryz.prog ⟨89,60,none⟩ _ _ _ _ _;refine zy ?_
 refine ZAQ (fun (s:Nat×Value) m ds h'=>ds=[]/\s.1<=l.length/\Ext h h'/\Own h h' [slI h s.2 44 6 ((mrgU ltW (l.take s.1)).flatMap rowW) (mrgU ltW (l.take s.1)).length]/\(mrgU ltW (l.take s.1)=[]->s.2=.slice none 0 0) ∧
   AllK m [(0,.slice a l.length cap),(3,s.2),(4,i64 s.1)]) (fun s=>l.length-s.1) (0,.slice none 0 0) ?_ ?_
 ·exact⟨rfl,Nat.zero_le _,Ext.refl _,(Own.nil _ _).nilSl _ _,fun _=>rfl,rfl,rfl,rfl,trivial⟩
 rintro⟨k,v⟩ m ds h3 ⟨rfl,hk,hE3,hO3,hnil,hall⟩;simp only at hk hO3 hall hnil;refine Wc.le ?_ (Le.kn hall);refine zy ?_;refine ZAN rfl rfl rfl rfl (ZAY rfl rfl) (fun h4=>?_) (fun h4=>?_);rotate_left
 ·have:k=l.length:=by omega
  subst this;rw[List.take_length] at hO3;refine zy ?_;exact ZAE (ZAF rfl ⟨hO3.p1,hE3⟩)
 have hk':k<l.length:=by omega
 have htk:mrgU ltW (l.take (k+1))=insU ltW l[k] (mrgU ltW (l.take k)):=by
  rw[List.take_add_one,List.getElem?_eq_getElem hk'];exact ZHz _ _
 have hLn:(mrgU ltW (l.take k)).length<=1000000:=Nat.le_trans (ZBZ ZAX _) (by rw[List.length_take];omega);obtain⟨b,o,oa,rfl,row,hrow,hma⟩:=hR k hk';have hma':row=rowW l[k]:=hma;clear hma;generalize l[k]=y at *;subst hma';generalize mrgU ltW (l.take k)=L at *;have hF3:ZAA h h3 v 44 6 (L.flatMap rowW) L.length:=hO3.p1;obtain⟨aL,hv,hLr,-⟩:=ZAA.rowsAt (enc:=rowW) (k:=6) (fun _=>rfl) hF3 rfl;subst hv;refine zy ?_
 refine Wc.mono (Q:=fun z m' ds' h'=>z=.exit 2/\ds'=[]/\Ext h3 h'/\∃i,i<=L.length/\(∀j (hj:j<L.length),j<i->ltW L[j] y)/\(∀h:i<L.length,¬ltW L[i] y) ∧
   AllK m' [(0,.slice (some ⟨b,o,oa⟩) l.length cap),(3,.slice aL L.length L.length),(4,i64 k),(5,i64 i)]) ?_ ?_
 ·refine ZAQ (fun (i:Nat) m ds h'=>ds=[]/\Ext h3 h'/\i<=L.length/\(∀j (hj:j<L.length),j<i->ltW L[j] y) ∧
    AllK m [(0,.slice (some ⟨b,o,oa⟩) l.length cap),(3,.slice aL L.length L.length),(4,i64 k),(5,i64 i)]) (fun i=>L.length-i) 0 ?_ ?_
  ·exact⟨rfl,Ext.refl _,Nat.zero_le _,(fun _ _ hj=>by omega),rfl,rfl,rfl,rfl,trivial⟩
  clear hall;rintro i m ds h5 ⟨rfl,hE5,hi,hlo,hall⟩;refine Wc.le ?_ (Le.kn hall);refine zy ?_
  by_cases h6:i<L.length
  rotate_left
  ·refine ZAM hmix [0,0,2,7,15,31,31,127,255,31,31,1567,3615,8191,16383] [0,1,2,3,4,5,6,7,8,9,10,11,12] (some 13) [([14],none)] (by kernel_rfl) (by kernel_rfl) ?_
   refine z_m ?_;refine z_m ?_;refine z_c ?_;refine ZAB rfl rfl rfl rfl rfl (fun _=>A_ff (by omega) (ZAY rfl rfl)) ?_;refine z_m ?_;refine g_m ?_;refine g_m ?_;refine g_i ?_;refine g_r ?_;refine g_m ?_;refine g_m ?_;refine g_i ?_;refine g_r ?_;refine ZAK [0,1,2,3,4,5,6,7,8,9,10,11,12] (by kernel_rfl) rfl (ZAC rfl) rfl nb (dF (dF (dF (dF (dF (dF (dF (dF (dF (dF (dF (dF (dF nF))))))))))))) (ZB0 rfl ?_);refine z_p ?_;refine ZAT (ZAC rfl) nb' ?_;refine zy ?_;exact⟨rfl,rfl,hE5,i,hi,hlo,(fun h=>absurd h h6),rfl,rfl,rfl,rfl,trivial⟩
  have hi':i<L.length:=h6;obtain⟨b2,o2,oa2,rfl,row2,hrow2,hma2⟩:=(hLr.ext hE5).1 i hi';have hma2':row2=rowW L[i]:=hma2;subst hma2';have hrow5:=(hE3.trans hE5).row hrow;have hls:=ZSp L[i] y h5
  by_cases h7:ltW L[i] y
  ·rw[decide_eq_true h7] at hls
   refine ZAM hmix [0,0,2,7,15,31,31,127,255,31,31,1567,3615,8191,16383] [0,1,2,3,4,5,6,7,8,9,10,11,12] (some 13) [([14],none)] (by kernel_rfl) (by kernel_rfl) ?_;refine z_m ?_;refine z_m ?_;refine z_c ?_;refine ZAB rfl rfl rfl rfl rfl (fun _=>A_tt (by omega) (ZAY rfl rfl)) ?_;refine z_m ?_;refine g_m ?_;refine g_m ?_
   first|refine ZAW rfl rfl rfl rfl ?_|refine ZAB rfl rfl rfl rfl rfl (fun _=>A_ix Und.h Tsz.h rfl rfl) ?_
   refine g_r ?_;refine g_m ?_;refine g_m ?_
   first|refine ZAW rfl rfl rfl rfl ?_|refine ZAB rfl rfl rfl rfl rfl (fun _=>A_ix Und.h Tsz.h rfl rfl) ?_
   refine g_r ?_;refine ZAK [0,1,2,3,4,5,6,7,8,9,10,11,12] (by kernel_rfl) rfl (ZAC rfl) rfl nb (dF (dF (dF (dF (dF (dF (dF (dF (dF (dF (dF (dF (dF nF))))))))))))) (ZAc rfl rfl rfl rfl rfl Bod.h hls (fun h8 hE8=>?_));refine z_p ?_;refine ZAT (ZAC rfl) nb' ?_;refine zy ?_;refine⟨i+1,(by show L.length-(i+1)<L.length-i;omega),rfl,hE5.trans hE8,hi',?_,rfl,rfl,rfl,rfl,trivial⟩;intro j hj hlt
   rcases Nat.lt_or_ge j i with g|g
   ·exact hlo j hj g
   ·have:j=i:=by omega
    subst this;exact h7
  ·rw[decide_eq_false h7] at hls
   refine ZAM hmix [0,0,2,7,15,31,31,127,255,31,31,1567,3615,8191,16383] [0,1,2,3,4,5,6,7,8,9,10,11,12] (some 13) [([14],none)] (by kernel_rfl) (by kernel_rfl) ?_;refine z_m ?_;refine z_m ?_;refine z_c ?_;refine ZAB rfl rfl rfl rfl rfl (fun _=>A_tt (by omega) (ZAY rfl rfl)) ?_;refine z_m ?_;refine g_m ?_;refine g_m ?_
   first|refine ZAW rfl rfl rfl rfl ?_|refine ZAB rfl rfl rfl rfl rfl (fun _=>A_ix Und.h Tsz.h rfl rfl) ?_
   refine g_r ?_;refine g_m ?_;refine g_m ?_
   first|refine ZAW rfl rfl rfl rfl ?_|refine ZAB rfl rfl rfl rfl rfl (fun _=>A_ix Und.h Tsz.h rfl rfl) ?_
   refine g_r ?_;refine ZAK [0,1,2,3,4,5,6,7,8,9,10,11,12] (by kernel_rfl) rfl (ZAC rfl) rfl nb (dF (dF (dF (dF (dF (dF (dF (dF (dF (dF (dF (dF (dF nF))))))))))))) (ZAc rfl rfl rfl rfl rfl Bod.h hls (fun h8 hE8=>?_));refine z_p ?_;refine ZAT (ZAC rfl) nb' ?_;refine zy ?_;exact⟨rfl,rfl,hE5.trans hE8,i,hi,hlo,(fun _=>h7),rfl,rfl,rfl,rfl,trivial⟩
 clear hall;rintro _ m _ h5 ⟨rfl,rfl,hE35,i,hi,hlo,hhi,hall⟩
 show Wc _ _ _ _ _ _ _
 refine Wc.le ?_ (Le.kn hall);have hins:=ZPY hi hlo hhi;rw[<-htk] at hins;have hE5:=hE3.trans hE35;have hO5:=hO3.ext hE35;have hF5:ZAA h h5 (.slice aL L.length L.length) 44 6 (L.flatMap rowW) L.length:=hO5.p1;have hL5:=hLr.ext hE35;have hrow5:=hE5.row hrow;clear hlo hhi hall hF3 hLr hO3 hE3
 by_cases hsame:∃h:i<L.length,L[i]=y
 ·rw[if_pos hsame] at hins
  obtain⟨hi',he⟩:=hsame;obtain⟨b2,o2,oa2,rfl,row2,hrow2,hma2⟩:=hL5.1 i hi';have hma2':row2=rowW y:=by rw[<-he];exact hma2
  subst hma2';refine zy ?_;refine ZAM hmix [0,0,2,7,15,31,31,127,255,31,31,1567,3615,8191,16383] [0,1,2,3,4,5,6,7,8,9,10,11,12,13,14] none [] (by kernel_rfl) (by kernel_rfl) ?_;refine z_m ?_;refine z_m ?_;refine z_c ?_;refine ZAB rfl rfl rfl rfl rfl (fun _=>A_tt (by omega) (ZAY rfl rfl)) ?_;refine z_m ?_;refine g_m ?_;refine g_m ?_
  first|refine ZAW rfl rfl rfl rfl ?_|refine ZAB rfl rfl rfl rfl rfl (fun _=>A_ix Und.h Tsz.h rfl rfl) ?_
  refine g_r ?_;refine g_m ?_;refine g_m ?_
  first|refine ZAW rfl rfl rfl rfl ?_|refine ZAB rfl rfl rfl rfl rfl (fun _=>A_ix Und.h Tsz.h rfl rfl) ?_
  refine g_r ?_
  first|refine ZAW rfl rfl rfl rfl ?_|refine ZAB rfl rfl rfl rfl rfl (fun _=>A_tt rfl (ZED recK (a:=y) (b:=y) rfl rfl recG rfl rfl)) ?_
  refine z_p ?_;refine ZAT (ZAC rfl) nb' ?_;refine zy ?_;refine⟨(k+1,_),?_,rfl,hk',hE5,?_,?_,rfl,rfl,rfl,trivial⟩
  ·show l.length-(k+1)<l.length-k;omega
  ·rw[hins];exact hO5
  ·rw[hins];exact hnil
 rw[if_neg hsame] at hins;have hti:(L.take i).length=i:=by rw[List.length_take];omega
 have hdi:(L.drop i).length=L.length-i:=List.length_drop;refine ZGb (Wc.mono (Q:=fun z m' ds' h'=>z=.normal/\ds'=[]/\h5=h'/\AllK m' [(0,.slice (some ⟨b,o,oa⟩) l.length cap),(3,.slice aL L.length L.length),(4,i64 k),(5,i64 i)]) ?_ ?_)
 ·by_cases h6:i<L.length
  ·have hne:¬L[i]=y:=fun e=>hsame ⟨h6,e⟩
   obtain⟨b2,o2,oa2,rfl,row2,hrow2,hma2⟩:=hL5.1 i h6;have hma2':row2=rowW L[i]:=hma2;subst hma2';refine zy ?_;refine ZAM hmix [0,0,2,7,15,31,31,127,255,31,31,1567,3615,8191,16383] [0,1,2,3,4,5,6,7,8,9,10,11,12,13,14] none [] (by kernel_rfl) (by kernel_rfl) ?_;refine z_m ?_;refine z_m ?_;refine z_c ?_;refine ZAB rfl rfl rfl rfl rfl (fun _=>A_tt (by omega) (ZAY rfl rfl)) ?_;refine z_m ?_;refine g_m ?_;refine g_m ?_
   first|refine ZAW rfl rfl rfl rfl ?_|refine ZAB rfl rfl rfl rfl rfl (fun _=>A_ix Und.h Tsz.h rfl rfl) ?_
   refine g_r ?_;refine g_m ?_;refine g_m ?_
   first|refine ZAW rfl rfl rfl rfl ?_|refine ZAB rfl rfl rfl rfl rfl (fun _=>A_ix Und.h Tsz.h rfl rfl) ?_
   refine g_r ?_
   first|refine ZAW rfl rfl rfl rfl ?_|refine ZAB rfl rfl rfl rfl rfl (fun _=>A_ff hne (ZED recK (a:=L[i]) (b:=y) rfl rfl recG rfl rfl)) ?_
   refine z_p ?_;refine ZAT (ZAC rfl) nb' ?_;refine zy ?_;exact⟨rfl,rfl,rfl,rfl,rfl,rfl,rfl,trivial⟩
  ·refine zy ?_
   refine ZAM hmix [0,0,2,7,15,31,31,127,255,31,31,1567,3615,8191,16383] [0,1,2,3,4,5,6,7,8,9,10,11,12,13,14] none [] (by kernel_rfl) (by kernel_rfl) ?_;refine z_m ?_;refine z_m ?_;refine z_c ?_;refine ZAB rfl rfl rfl rfl rfl (fun _=>A_ff (by omega) (ZAY rfl rfl)) ?_;refine z_m ?_;refine g_m ?_;refine g_m ?_;refine g_i ?_;refine g_r ?_;refine g_m ?_;refine g_m ?_;refine g_i ?_;refine g_r ?_;refine z_o ?_;refine z_p ?_;refine ZAT (ZAC rfl) nb' ?_;refine zy ?_;exact⟨rfl,rfl,rfl,rfl,rfl,rfl,rfl,trivial⟩
 rintro _ m _ _ ⟨rfl,rfl,rfl,hall⟩
 show Wc _ _ _ _ _ _ _
 refine Wc.le ?_ (Le.kn hall);obtain⟨w1,hz1,hA1⟩:=ZTZ hF5 hnil hi;obtain⟨w2,hz2,hA2⟩:=ZQt hF5 hnil hi;refine ZEd fun hw5=>?_;have hEa0:=Ext.add hw5 (.cells [] 44 false);have hEa:=hEa0.trans (Ext.rsv (Heap.add h5 (.cells [] 44 false)));have hOa0:Own h (Heap.add h5 (.cells [] 44 false)) [slI h (.slice (some ⟨h5.nx,0,none⟩) 0 0) 44 6 [] 0,slI h (.slice aL L.length L.length) 44 6 (L.flatMap rowW) L.length]:=hO5.newSl hw5 hE5.2.1 hEa0 (ZAA.lit Heap.get_add_same rfl (Nat.le_refl _));have hne:=hOa0.ne (hw5.add _) (Nat.le_refl (h5.nx+1));have hn5:=hE5.2.1;clear hall;refine zy ?_;refine ZAM hmix [0,0,0,6,15,0,0,96,224,480,1023,0,0,6144,16383,32767] [0,1,2,3,5,6,7,8,9,11,12,13] (some 4) [([],(some 10)),([],(some 14)),([],(some 15)),([],none)] (by kernel_rfl) (by kernel_rfl) ?_
 refine ZC5 (nk:=.sl _ _) rfl rfl rfl rfl rfl (fun _ _ hs=>N_bs hs Und.h Tsz.h Zr.h rfl rfl rfl rfl rfl) ?_;refine z_m ?_;refine z_m ?_;refine ZAB rfl rfl rfl rfl rfl (fun _=>hA1 rfl rfl) ?_;refine z_m ?_;refine z_m ?_;refine z_i ?_;refine z_r ?_;refine ZC5 (nk:=.sl _ _) rfl rfl rfl rfl rfl (fun _ _ hs=>N_bs hs Und.h Tsz.h Zr.h rfl rfl rfl rfl rfl) ?_;refine z_m ?_;refine z_m ?_;refine ZAB rfl rfl rfl rfl rfl (fun _=>hA2 rfl rfl) ?_;refine ZAK (h1:=(rsv (Heap.add h5 _))) [0,1,2,3] (by kernel_rfl) rfl (ZAC rfl) rfl rfl (kF (kF (kF (kF (kF (kF (kF (kF (dF (dF (dF (dF nF)))))))))))) (ZBU (ZIc (n1:=h5.nx+1) (by':=72) (sz:=6) (k:=i) (n:=0) (l:=(L.take i).flatMap rowW) rfl hw (hE5.trans hEa) rfl rfl rfl rfl Und.h inferInstance rfl rfl (hOa0.ext (Ext.rsv _)) (hz1 _ h (hF5.ext hEa)) (by rw[ZAr (enc:=rowW) (k:=6) (fun _=>rfl),hti]) (ZHx _) (by omega) (by omega) hne (Nat.lt_succ_self _) (fun v12 h12 hO13 hE12 hne12 hn12 hw12=>?_)))
 have hU12:=Upd.mk' h12 (h5.nx+1) (.cells (rowW y) 44 false);have hO13':=hO13.other (.cells (rowW y) 44 false) hne12;have hE12':=hU12.ext hE12 hw (Nat.le_succ_of_le hn5);have hrow12:=hE12.row hrow;have hrow12':=hE12'.row hrow;rw[List.nil_append,Nat.zero_add] at hO13';refine ZAK (h1:=(h12.set (h5.nx+1) (.cells (rowW y) 44 false))) [0,1,2,3,4,5,6,7,8,9] (by kernel_rfl) rfl (by refine ZAn (i:=13) rfl rfl rfl rfl rfl (fun _=>hA2 rfl rfl) rfl ?_;refine t_m 12 ?_;refine t_m 11 ?_;refine ZMF (i:=9) (nk:=.sl _ _) rfl rfl rfl rfl rfl (fun _ _ hs=>N_bs hs Und.h Tsz.h Zr.h rfl rfl rfl rfl rfl) rfl ?_;refine t_r 8 ?_;refine t_i 7 ?_;refine t_m 6 ?_;refine t_m 5 ?_;exact ZAC rfl) rfl rfl (kF (kF (kF (dF (dF (dF (dF (dF nF)))))))) (ZBU (ZBS (by':=72) (sz:=6) (k:=1) (n:=i) (l:=rowW y) rfl hw hE12' rfl rfl rfl rfl Und.h inferInstance rfl rfl hO13' ((ZAA.lit (h0:=h) (n:=1) (sz:=6) hU12.at' rfl (Nat.le_succ_of_le hn5)).src (dd:=.slice 44) Und.h (by intro k;simp)) rfl rfl (by omega) (by omega) (fun v14 h14 hO15 hE14 hw14=>?_)))
 have hF15:ZAA h h14 (.slice aL L.length L.length) 44 6 (L.flatMap rowW) L.length:=hO15.at 1 rfl;refine ZAK (h1:=h14) [0,1,2,3,4,5,6,7,8,9,10,11,12,13] (by kernel_rfl) rfl (by refine ZAn (i:=13) rfl rfl rfl rfl rfl (fun _=>hA2 rfl rfl) rfl ?_;refine t_m 12 ?_;refine t_m 11 ?_;exact ZAC rfl) rfl rfl (dF (dF (dF nF))) (ZBU (ZBS (by':=72) (sz:=6) (k:=L.length-i) (n:=i+1) (l:=(L.drop i).flatMap rowW) rfl hw hE14 rfl rfl rfl rfl Und.h inferInstance rfl rfl hO15 (hz2 _ h hF15) (by rw[ZAr (enc:=rowW) (k:=6) (fun _=>rfl),hdi]) (ZHx _) (by omega) (by omega) (fun v16 h16 hO17 hE16 hw16=>?_)));refine ZAK (h1:=h16) [0,1,2,3,4,5,6,7,8,9,10,11,12,13,14] (by kernel_rfl) rfl (ZAC rfl) rfl rfl nF (ZDm rfl rfl (ZBG rfl) ?_)
 refine ZAT (h1:=h16) (ZAC rfl) rfl ?_;refine zy ?_;refine⟨(k+1,v16),?_,rfl,hk',hE16,?_,?_,rfl,rfl,rfl,trivial⟩
 ·show l.length-(k+1)<l.length-k;omega
 ·simp only
  rw[hins];have e1:(L.take i++y::L.drop i).flatMap rowW=(L.take i).flatMap rowW++rowW y++(L.drop i).flatMap rowW:=by rw[List.flatMap_append,List.flatMap_cons,List.append_assoc]
  have e2:(L.take i++y::L.drop i).length=i+1+(L.length-i):=by rw[List.length_append,List.length_cons,hti,hdi];omega
  rw[e1,e2];exact hO17.sub (.cons_cons _ (List.nil_sublist _))
 ·intro e
  simp only at e;rw[hins] at e;simp at e
end Go.Dw
namespace Go.Dw
open Go Go.Dx Go.Proofs
set_option maxRecDepth 100000
theorem ZPO {x y:WkR}(h:ltW x y):x.archive<y.archive\/(x.archive=y.archive/\(x.number<y.number\/x.number=y.number)):=by
 have h':x.archive<y.archive\/(x.archive=y.archive/\(x.number<y.number\/(x.number=y.number/\_))):=h
 rcases h' with h|⟨h,h2|⟨h2,-⟩⟩
 ·exact .inl h
 ·exact .inr ⟨h,.inl h2⟩
 ·exact .inr ⟨h,.inr h2⟩
theorem ZSN {x y z:WkR}(h1:ltW x y)(h2:ltW y z)(h:x.key=z.key):y.key=z.key:=by
 have ha:x.archive=z.archive:=congrArg Prod.fst h;have hn:x.number=z.number:=congrArg Prod.snd h;have irr:∀a:Str,¬a<a:=fun a=>ZAJ.irr a;have g1:=ZPO h1;have g2:=ZPO h2;rw[ha,hn] at g1
 show (y.archive,y.number)=(z.archive,z.number)
 rcases g1 with g1|⟨e1,g1⟩
 ·rcases g2 with g2|⟨e2,g2⟩
  ·exact absurd (ZAJ.tr g1 g2) (irr _)
  ·rw[e2] at g1;exact absurd g1 (irr _)
 ·rcases g2 with g2|⟨e2,g2⟩
  ·rw[e1] at g2;exact absurd g2 (irr _)
  ·rw[e2]
   have:y.number=z.number:=by omega
   rw[this]
theorem ZS1 {L:List WkR}(hL:L.Pairwise ltW){j:Nat}(hj:j+1<L.length):cntK (L.take (j+1)) L[j+1].key=1 ↔ L[j+1].key=L[j].key/\L[j+1].key ∉ ZA1 (L.take (j+1)):=by
 rw[ZHd];have hpos:=@ZNH (L.take (j+1)) L[j+1].key
 constructor
 ·intro h
  refine⟨?_,by omega⟩;obtain⟨x,hx,hk⟩:=hpos.1 (by omega);obtain⟨i,hi,rfl⟩:=List.getElem_of_mem hx;rw[List.length_take] at hi;rw[List.getElem_take] at hk
  rcases Nat.lt_or_ge i j with g|g
  ·rw[List.pairwise_iff_getElem] at hL
   exact (ZSN (hL i j (by omega) (by omega) g) (hL j (j+1) (by omega) hj (Nat.lt_succ_self _)) hk).symm
  ·have:i=j:=by omega
   subst this;exact hk.symm
 ·rintro⟨h1,h2⟩
  have:=hpos.2 ⟨L[j],by rw[List.mem_take_iff_getElem];exact⟨j,by omega,rfl⟩,h1.symm⟩;omega
theorem ZTQ {L:List WkR}{x:WkR}(hx:x∈L):cntK L x.key=1 ↔ x.key ∉ ZA1 L:=by
 rw[ZHd];have:=(@ZNH L x.key).2 ⟨x,hx,rfl⟩;omega
def ZTO (L:List WkR)(v:Value)(h':Heap):Prop:=∃a af,v=.tuple ⟨[.slice a (ZAe L).length (ZAe L).length,.slice af (ZA1 L).length (ZA1 L).length]⟩/\SrcK rowW 6 h' a (ZAe L)/\SrcK rowK 2 h' af (ZA1 L)
theorem ZQC (L:List WkR):ZA1 (L.take 1)=[]:=by
 rcases L with _|⟨x,L⟩
 ·rfl
 ·rw[List.take_succ_cons,List.take_zero]
  have:=ZDB [] x;rw[List.nil_append] at this;rw[this];simp[cntK,ZA1]
set_option maxHeartbeats 4000000 in
theorem ZHE {a:Option Addr}{cap:Nat}{l:List WkR}{h:Heap}(hR:ZDC h a l)(hf:∀x∈l,x.Fit)(hlen:l.length<=1000000) :
  Sv Tryz.prog 60 [.slice a l.length cap] h (RetP fun v h'=>ZTO (mrgU ltW l) v h'/\Ext h h'):=by
 refine ZAG Tryz.func60 rfl (by rw[Tryz.ntmps60];rfl) ?_;show Wc Tryz.prog ⟨60,139,none⟩ _ _ _ _ _;refine zy ?_;refine ZAI rfl rfl rfl rfl rfl Bod.h rfl rfl (ZPX hR hlen) ?_;rintro v1 h1 ⟨hF1,hE1⟩;obtain⟨aL,rfl,hL1,-⟩:=ZAA.rowsAt (enc:=rowW) (k:=6) (fun _=>rfl) hF1 rfl;have hup:=ZCc ZAX l;have hLn:(mrgU ltW l).length<=1000000:=Nat.le_trans (ZBZ ZAX _) hlen;have hLf:∀x∈mrgU ltW l,x.Fit:=fun x hx=>hf x ((ZBK ZAX).1 hx);generalize mrgU ltW l=L at *;clear hR hf hF1;refine ZBQ fun hw1=>?_;refine zy ?_;refine Wc.mono (Q:=fun z m' ds' h'=>z=.exit 0/\ds'=[]/\Ext h1 h'/\∃v4,Own h1 h' [slI h1 v4 51 2 ((ZA1 L).flatMap rowK) (ZA1 L).length]/\AllK m' [(0,.slice aL L.length L.length),(4,v4),(5,.slice none 0 0)]) ?_ ?_
 ·refine ZAQ (fun (s:Nat×Value) m ds h'=>ds=[]/\Ext h1 h'/\(s.1+1<=L.length\/s.1=0)/\Own h1 h' [slI h1 s.2 51 2 ((ZA1 (L.take (s.1+1))).flatMap rowK) (ZA1 (L.take (s.1+1))).length] ∧
    AllK m [(0,.slice aL L.length L.length),(4,s.2),(5,.slice none 0 0),(6,i64 ((s.1+1:Nat):Int))]) (fun s=>L.length-s.1) (0,.slice none 0 0) ?_ ?_
  ·refine⟨rfl,Ext.refl _,.inr rfl,?_,rfl,rfl,rfl,rfl,trivial⟩
   show Own h1 h1 [slI h1 _ _ 2 ((ZA1 (L.take 1)).flatMap rowK) (ZA1 (L.take 1)).length]
   rw[ZQC];exact (Own.nil _ _).nilSl _ _
  rintro⟨j,v4⟩ m ds h2 ⟨rfl,hE2,hj,hO2,hall⟩;simp only at hj hO2 hall;refine Wc.le ?_ (Le.kn hall);clear hall;refine zy ?_;refine ZAN rfl rfl rfl rfl (ZAY rfl rfl) (fun h3=>?_) (fun h3=>?_);rotate_left
  ·have:L.take (j+1)=L:=List.take_of_length_le (by omega)
   rw[this] at hO2;refine zy ?_;exact⟨rfl,rfl,hE2,v4,hO2,rfl,rfl,rfl,trivial⟩
  have hj1:j+1<L.length:=by omega
  have hadj:=ZS1 hup hj1;have hfs:=ZDB (L.take (j+1)) L[j+1];have htk:L.take (j+1+1)=L.take (j+1)++[L[j+1]]:=by rw[List.take_add_one,List.getElem?_eq_getElem hj1];rfl
  rw[<-htk] at hfs;have hFl:(ZA1 (L.take (j+1))).length<=1000000:=Nat.le_trans (ZHQ _) (by rw[List.length_take];omega);have hL2:=hL1.ext hE2;obtain⟨b,o,oa,rfl,row,hrow,hx⟩:=hL2.1 (j+1) hj1;obtain⟨b',o',oa',e,row',hrow',hy⟩:=hL2.1 j (by omega);cases e;obtain⟨a4,rfl,hS4,-⟩:=ZAA.rowsAt (enc:=rowK) (k:=2) (fun _=>rfl) (show ZAA h1 h2 v4 51 2 _ _ from hO2.p1) rfl;have ex:row=rowW L[j+1]:=hx;have ey:row'=rowW L[j]:=hy;clear hx hy;generalize L[j+1]=x at *;generalize L[j]=y at *;generalize hFd:ZA1 (L.take (j+1))=F at *;subst ex ey
  by_cases c1:x.key=y.key
  rotate_left
  ·rw[if_neg (fun q=>c1 (hadj.1 q).1)] at hfs
   refine zy ?_;refine ZAM hmix [0,0,3,7,15,0,0,64,224,480,1023,2047,4095,8191,8191,8191,57343,122879,253951,524287,1048575,2097151] [0,1,2,3,5,6,7,8,9] (some 4) [([],(some 10)),([11,12,13,14,15,16,17],(some 18)),([],(some 19)),([20,21],none)] (by kernel_rfl) (by kernel_rfl) ?_;refine z_m ?_;refine z_m ?_;refine ZAB rfl rfl rfl rfl rfl (fun _=>A_ix (k:=j+1) Und.h Tsz.h rfl rfl) ?_;refine z_r ?_;refine z_m ?_;refine z_m ?_;refine z_u ?_;refine ZAB rfl rfl rfl rfl rfl (fun _=>ZAO (k:=j) Und.h Tsz.h rfl rfl (by omega) (by omega)) ?_;refine z_r ?_;refine ZAK [0,1,2,3] (by kernel_rfl) rfl (ZAC rfl) rfl nb (kF (kF (kF (kF (kF (dF (dF (dF (dF nF))))))))) (ZAc rfl rfl rfl rfl rfl Bod.h (ZA0 x _) (fun h5 hE5=>?_))
   have r5:=hE5.row hrow';refine ZAK [0,1,2,3,4,5,6,7,8,9] (by kernel_rfl) rfl (by refine t_r 9 ?_;refine ZAn (i:=8) rfl rfl rfl rfl rfl (fun _=>ZAO (k:=j) Und.h Tsz.h rfl rfl (by omega) (by omega)) rfl ?_;refine t_u 7 ?_;refine t_m 6 ?_;refine t_m 5 ?_;exact ZAC rfl) rfl nb (dF (dF (dF (dF (dF nF))))) (ZAc rfl rfl rfl rfl rfl Bod.h (ZA0 y _) (fun h6 hE6=>?_));refine ZAB rfl rfl rfl rfl rfl (fun _=>A_ff c1 (ZED keyK (a:=x.key) (b:=y.key) rfl rfl keyG rfl rfl)) ?_;refine z_m ?_;refine g_m ?_;refine g_m ?_;refine g_m ?_;refine g_i ?_;refine g_r ?_;refine ZAK [0,1,2,3,4,5,6,7,8,9,10,11,12,14,15,16,17] (by kernel_rfl) rfl (ZAC rfl) rfl nb (dF (dF (dF (dF (kF (dF (dF nF))))))) (ZB0 rfl ?_)
   refine ZAK [0,1,2,3,4,5,6,7,8,9,10,11,12,13,14,15,16,17,18] (by kernel_rfl) rfl (by refine o_m 13 ?_;exact ZAC rfl) rfl nb (dF nF) (ZB0 rfl ?_);refine g_n ?_;refine z_p ?_;refine ZAT (ZAC rfl) nb' ?_;refine zy ?_;refine⟨(j+1,_),(by show L.length-(j+1)<L.length-j;omega),rfl,hE2.trans (hE5.trans hE6),.inl hj1,?_,rfl,rfl,rfl,rfl,trivial⟩;simp only;rw[hfs];exact (hO2.ext hE5).ext hE6
  by_cases c2:x.key∈F
  ·rw[if_neg (fun q=>(hadj.1 q).2 c2)] at hfs
   refine zy ?_;refine ZAM hmix [0,0,3,7,15,0,0,64,224,480,1023,2047,4095,8191,8191,8191,57343,122879,253951,524287,1048575,2097151] [0,1,2,3,5,6,7,8,9] (some 4) [([],(some 10)),([11,12,13,14,15,16,17],(some 18)),([],(some 19)),([20,21],none)] (by kernel_rfl) (by kernel_rfl) ?_;refine z_m ?_;refine z_m ?_;refine ZAB rfl rfl rfl rfl rfl (fun _=>A_ix (k:=j+1) Und.h Tsz.h rfl rfl) ?_;refine z_r ?_;refine z_m ?_;refine z_m ?_;refine z_u ?_;refine ZAB rfl rfl rfl rfl rfl (fun _=>ZAO (k:=j) Und.h Tsz.h rfl rfl (by omega) (by omega)) ?_;refine z_r ?_;refine ZAK [0,1,2,3] (by kernel_rfl) rfl (ZAC rfl) rfl nb (kF (kF (kF (kF (kF (dF (dF (dF (dF nF))))))))) (ZAc rfl rfl rfl rfl rfl Bod.h (ZA0 x _) (fun h5 hE5=>?_))
   have r5:=hE5.row hrow';refine ZAK [0,1,2,3,4,5,6,7,8,9] (by kernel_rfl) rfl (by refine t_r 9 ?_;refine ZAn (i:=8) rfl rfl rfl rfl rfl (fun _=>ZAO (k:=j) Und.h Tsz.h rfl rfl (by omega) (by omega)) rfl ?_;refine t_u 7 ?_;refine t_m 6 ?_;refine t_m 5 ?_;exact ZAC rfl) rfl nb (dF (dF (dF (dF (dF nF))))) (ZAc rfl rfl rfl rfl rfl Bod.h (ZA0 y _) (fun h6 hE6=>?_));have r6:=(hE5.trans hE6).row hrow;refine ZAB rfl rfl rfl rfl rfl (fun _=>A_tt c1 (ZED keyK (a:=x.key) (b:=y.key) rfl rfl keyG rfl rfl)) ?_;refine z_m ?_;refine g_m ?_;refine g_m ?_;refine g_m ?_
   first|refine ZAW rfl rfl rfl rfl ?_|refine ZAB rfl rfl rfl rfl rfl (fun _=>A_ix (k:=j+1) Und.h Tsz.h rfl rfl) ?_
   refine g_r ?_;refine ZAK [0,1,2,3,4,5,6,7,8,9,10,11,12,14,15,16,17] (by kernel_rfl) rfl (ZAC rfl) rfl nb (dF (dF (dF (dF (kF (dF (dF nF))))))) (ZAc rfl rfl rfl rfl rfl Bod.h (ZA0 x _) (fun h7 hE7=>?_));have hE57:=(hE5.trans hE6).trans hE7;have hc:=ZCd (cap:=F.length) (k:=x.key) (hS4.ext hE57).1 (show _<_ by omega);rw[decide_eq_true c2] at hc;refine ZAK [0,1,2,3,4,5,6,7,8,9,10,11,12,13,14,15,16,17,18] (by kernel_rfl) rfl (by refine o_m 13 ?_;exact ZAC rfl) rfl nb (dF nF) (ZAc rfl rfl rfl rfl rfl Bod.h hc (fun h8 hE8=>?_));refine g_n ?_;refine z_p ?_;refine ZAT (ZAC rfl) nb' ?_;refine zy ?_;refine⟨(j+1,_),(by show L.length-(j+1)<L.length-j;omega),rfl,hE2.trans (hE57.trans hE8),.inl hj1,?_,rfl,rfl,rfl,rfl,trivial⟩
   simp only;rw[hfs];exact (hO2.ext hE57).ext hE8
  rw[if_pos (hadj.2 ⟨c1,c2⟩)] at hfs;refine zy ?_;refine ZAM hmix [0,0,3,7,15,0,0,64,224,480,1023,2047,4095,8191,8191,8191,57343,122879,253951,524287,1048575,2097151] [0,1,2,3,5,6,7,8,9] (some 4) [([],(some 10)),([11,12,13,14,15,16,17],(some 18)),([],(some 19)),([20,21],none)] (by kernel_rfl) (by kernel_rfl) ?_;refine z_m ?_;refine z_m ?_;refine ZAB rfl rfl rfl rfl rfl (fun _=>A_ix (k:=j+1) Und.h Tsz.h rfl rfl) ?_;refine z_r ?_;refine z_m ?_;refine z_m ?_;refine z_u ?_;refine ZAB rfl rfl rfl rfl rfl (fun _=>ZAO (k:=j) Und.h Tsz.h rfl rfl (by omega) (by omega)) ?_;refine z_r ?_;refine ZAK [0,1,2,3] (by kernel_rfl) rfl (ZAC rfl) rfl nb (kF (kF (kF (kF (kF (dF (dF (dF (dF nF))))))))) (ZAc rfl rfl rfl rfl rfl Bod.h (ZA0 x _) (fun h5 hE5=>?_))
  have r5:=hE5.row hrow';refine ZAK [0,1,2,3,4,5,6,7,8,9] (by kernel_rfl) rfl (by refine t_r 9 ?_;refine ZAn (i:=8) rfl rfl rfl rfl rfl (fun _=>ZAO (k:=j) Und.h Tsz.h rfl rfl (by omega) (by omega)) rfl ?_;refine t_u 7 ?_;refine t_m 6 ?_;refine t_m 5 ?_;exact ZAC rfl) rfl nb (dF (dF (dF (dF (dF nF))))) (ZAc rfl rfl rfl rfl rfl Bod.h (ZA0 y _) (fun h6 hE6=>?_));have r6:=(hE5.trans hE6).row hrow;refine ZAB rfl rfl rfl rfl rfl (fun _=>A_tt c1 (ZED keyK (a:=x.key) (b:=y.key) rfl rfl keyG rfl rfl)) ?_;refine z_m ?_;refine g_m ?_;refine g_m ?_;refine g_m ?_
  first|refine ZAW rfl rfl rfl rfl ?_|refine ZAB rfl rfl rfl rfl rfl (fun _=>A_ix (k:=j+1) Und.h Tsz.h rfl rfl) ?_
  refine g_r ?_;refine ZAK [0,1,2,3,4,5,6,7,8,9,10,11,12,14,15,16,17] (by kernel_rfl) rfl (ZAC rfl) rfl nb (dF (dF (dF (dF (kF (dF (dF nF))))))) (ZAc rfl rfl rfl rfl rfl Bod.h (ZA0 x _) (fun h7 hE7=>?_));have hE57:=(hE5.trans hE6).trans hE7;have hc:=ZCd (cap:=F.length) (k:=x.key) (hS4.ext hE57).1 (show _<_ by omega);rw[decide_eq_false c2] at hc;refine ZAK [0,1,2,3,4,5,6,7,8,9,10,11,12,13,14,15,16,17,18] (by kernel_rfl) rfl (by refine o_m 13 ?_;exact ZAC rfl) rfl nb (dF nF) (ZAc rfl rfl rfl rfl rfl Bod.h hc (fun h8 hE8=>?_));refine g_n ?_;refine z_p ?_;refine ZAT (ZAC rfl) nb' ?_;have hE28:=hE57.trans hE8
  have r8:=hE28.row hrow;have hO8:=hO2.ext hE28;have hE18:=hE2.trans hE28;clear hc r5 r6 hE5 hE6 hE7 hE8 hE57 hrow hrow';refine zy ?_;refine ZAD rfl rfl rfl rfl (A_ix (k:=j+1) Und.h Tsz.h rfl rfl) ?_;refine zy ?_;refine ZAV rfl rfl rfl rfl rfl Bod.h rfl rfl (ZA0 x _) fun h9 hE9=>?_;refine zy ?_;refine ZBm rfl rfl Und.h Tsz.h Zr.h rfl rfl rfl rfl rfl fun h10 hE10 hW10 hg10 hn10=>?_;refine zy ?_;refine ZA6 (k:=1) (l:=rowK x.key) hw1 ((hE18.trans hE9).trans hE10) rfl rfl rfl rfl rfl Und.h inferInstance rfl rfl ((hO8.ext hE9).ext hE10) (ZBA Und.h (by intro k;simp) (ZAZ hg10 rfl)) rfl rfl (by omega) (by omega) fun v12 h12 hW12 hO12 hE12=>?_
  refine zy ?_;refine⟨(j+1,v12),(by show L.length-(j+1)<L.length-j;omega),rfl,hE12,.inl hj1,?_,rfl,rfl,rfl,rfl,trivial⟩;simp only;rw[hfs,List.flatMap_append,List.flatMap_singleton,List.length_append,List.length_singleton];exact hO12
 rintro _ m _ h2 ⟨rfl,rfl,hE12,v4,hO2,hall⟩
 show Wc _ _ _ _ _ _ _
 refine Wc.le ?_ (Le.kn hall);clear hall;obtain⟨a4,rfl,hS4,-⟩:=ZAA.rowsAt (enc:=rowK) (k:=2) (fun _=>rfl) (show ZAA h1 h2 v4 51 2 _ _ from hO2.p1) rfl;have hFl:(ZA1 L).length<=1000000:=Nat.le_trans (ZHQ _) hLn;have hcnt:∀x∈L,(cntK L x.key=1 ↔ x.key ∉ ZA1 L):=fun x hx=>ZTQ hx;generalize hFg:ZA1 L=F at *;refine ZEd fun hw2=>?_;refine zy ?_;refine Wc.mono (Q:=fun z m' ds' h'=>z=.exit 2/\ds'=[]/\Ext h2 h'/\∃v5,Own h2 h' [slI h2 v5 51 2 ((ZEB L L).flatMap rowK) (ZEB L L).length]/\AllK m' [(0,.slice aL L.length L.length),(4,.slice a4 F.length F.length),(5,v5)]) ?_ ?_
 ·refine ZAQ (fun (s:Nat×Value) m ds h'=>ds=[]/\Ext h2 h'/\s.1<=L.length/\Own h2 h' [slI h2 s.2 51 2 ((ZEB L (L.take s.1)).flatMap rowK) (ZEB L (L.take s.1)).length] ∧
    AllK m [(0,.slice aL L.length L.length),(4,.slice a4 F.length F.length),(5,s.2),(7,i64 s.1)]) (fun s=>L.length-s.1) (0,.slice none 0 0) ?_ ?_
  ·exact⟨rfl,Ext.refl _,Nat.zero_le _,(Own.nil _ _).nilSl _ _,rfl,rfl,rfl,rfl,trivial⟩
  rintro⟨j,v5⟩ m ds h3 ⟨rfl,hE3,hj,hO3,hall⟩;simp only at hj hO3 hall;refine Wc.le ?_ (Le.kn hall);clear hall;refine zy ?_;refine ZAN rfl rfl rfl rfl (ZAY rfl rfl) (fun hjl=>?_) (fun hjl=>?_);rotate_left
  ·have:j=L.length:=by omega
   subst this;rw[List.take_length] at hO3;refine zy ?_;exact⟨rfl,rfl,hE3,v5,hO3,rfl,rfl,rfl,trivial⟩
  have hj':j<L.length:=by omega
  have htk:L.take (j+1)=L.take j++[L[j]]:=by rw[List.take_add_one,List.getElem?_eq_getElem hj'];rfl
  have hds:=ZF8 L (L.take j) L[j];have hDl:(ZEB L (L.take j)).length<=1000000:=by
   unfold ZEB;rw[List.length_map];exact Nat.le_trans (List.length_filter_le _ _) (by rw[List.length_take];omega)
  have hdb:ZE8 L L[j]=true ↔ L[j].kind=6/\L[j].key ∉ F/\L[j].a=L[j].archive:=by
   unfold ZE8;rw[decide_eq_true_iff,hcnt _ (List.getElem_mem hj')]
  rw[<-htk] at hds;have hxf:=hLf _ (List.getElem_mem hj');have hL3:=hL1.ext (hE12.trans hE3);obtain⟨b,o,oa,rfl,row,hrow,hx⟩:=hL3.1 j hj';have ex:row=rowW L[j]:=hx;clear hx;generalize L[j]=x at *;subst ex;have hS43:=hS4.ext hE3;have hc3:ZAb h3 b (o+j*6+3)=some (i64 x.kind):=ZAP (k:=3) hrow rfl
  by_cases c1:x.kind=6
  rotate_left
  ·rw[if_neg (fun q=>c1 (hdb.1 q).1)] at hds
   refine zy ?_;refine ZAM hmix [0,0,3,7,15,31,63,127,127,127,895,1919,3967,8191,16383,32767,65535,131071,131071,524287,1048575,2097151,131071,131071,12713983,29491199,63045631,134217727,268435455] [0,1,2,3,4,5,6,7,8,9,10,11] (some 12) [([],(some 13)),([14,15,16,17,18,19,20,21,22,23,24,25,26,27,28],none)] (by kernel_rfl) (by kernel_rfl) ?_;refine z_m ?_;refine z_m ?_;refine ZAB rfl rfl rfl rfl rfl (fun _=>A_ix (k:=j) Und.h Tsz.h rfl rfl) ?_;refine z_f ?_;refine z_l ?_;refine ZAB rfl rfl rfl rfl rfl (fun _=>A_ff c1 (ZAh rfl rfl)) ?_;refine z_m ?_;refine g_m ?_;refine g_m ?_;refine g_m ?_;refine g_i ?_;refine g_r ?_
   refine ZAK [0,1,2,3,4,5,6,8,9,10,11] (by kernel_rfl) rfl (ZAC rfl) rfl nb (dF (dF (dF (dF (kF (dF (dF (dF (dF (dF (dF (dF nF)))))))))))) (ZB0 rfl ?_);refine ZAK [0,1,2,3,4,5,6,7,8,9,10,11,12] (by kernel_rfl) rfl (by refine o_m 7 ?_;exact ZAC rfl) rfl nb (dF nF) (ZB0 rfl ?_);refine g_n ?_;refine z_p ?_;refine z_m ?_;refine g_m ?_;refine g_m ?_;refine g_i ?_;refine g_f ?_;refine g_l ?_;refine g_m ?_;refine g_m ?_;refine g_i ?_;refine g_f ?_;refine g_l ?_;refine z_o ?_;refine z_p ?_;refine ZAT (ZAC rfl) nb' ?_;refine zy ?_;refine⟨(j+1,_),(by show L.length-(j+1)<L.length-j;omega),rfl,hE3,hj',?_,rfl,rfl,rfl,rfl,trivial⟩
   simp only;rw[hds];exact hO3
  by_cases c2:x.key∈F
  ·rw[if_neg (fun q=>(hdb.1 q).2.1 c2)] at hds
   refine zy ?_;refine ZAM hmix [0,0,3,7,15,31,63,127,127,127,895,1919,3967,8191,16383,32767,65535,131071,131071,524287,1048575,2097151,131071,131071,12713983,29491199,63045631,134217727,268435455] [0,1,2,3,4,5,6,7,8,9,10,11] (some 12) [([],(some 13)),([14,15,16,17,18,19,20,21,22,23,24,25,26,27,28],none)] (by kernel_rfl) (by kernel_rfl) ?_;refine z_m ?_;refine z_m ?_;refine ZAB rfl rfl rfl rfl rfl (fun _=>A_ix (k:=j) Und.h Tsz.h rfl rfl) ?_;refine z_f ?_;refine z_l ?_;refine ZAB rfl rfl rfl rfl rfl (fun _=>A_tt c1 (ZAh rfl rfl)) ?_;refine z_m ?_;refine g_m ?_;refine g_m ?_;refine g_m ?_
   first|refine ZAW rfl rfl rfl rfl ?_|refine ZAB rfl rfl rfl rfl rfl (fun _=>A_ix (k:=j) Und.h Tsz.h rfl rfl) ?_
   refine g_r ?_;refine ZAK [0,1,2,3,4,5,6,8,9,10,11] (by kernel_rfl) rfl (ZAC rfl) rfl nb (dF (dF (dF (dF (kF (dF (dF (dF (dF (dF (dF (dF nF)))))))))))) (ZAc rfl rfl rfl rfl rfl Bod.h (ZA0 x _) (fun h5 hE5=>?_));have hc:=ZCd (cap:=F.length) (k:=x.key) (hS43.ext hE5).1 (show _<_ by omega);rw[decide_eq_true c2] at hc;refine ZAK [0,1,2,3,4,5,6,7,8,9,10,11,12] (by kernel_rfl) rfl (by refine o_m 7 ?_;exact ZAC rfl) rfl nb (dF nF) (ZAc rfl rfl rfl rfl rfl Bod.h hc (fun h6 hE6=>?_));refine g_n ?_;refine z_p ?_;refine z_m ?_;refine g_m ?_;refine g_m ?_;refine g_i ?_;refine g_f ?_;refine g_l ?_;refine g_m ?_;refine g_m ?_;refine g_i ?_;refine g_f ?_;refine g_l ?_;refine z_o ?_;refine z_p ?_
   refine ZAT (ZAC rfl) nb' ?_;refine zy ?_;refine⟨(j+1,_),(by show L.length-(j+1)<L.length-j;omega),rfl,hE3.trans (hE5.trans hE6),hj',?_,rfl,rfl,rfl,rfl,trivial⟩;simp only;rw[hds];exact (hO3.ext hE5).ext hE6
  by_cases c3:x.a=x.archive
  rotate_left
  ·rw[if_neg (fun q=>c3 (hdb.1 q).2.2)] at hds
   refine zy ?_;refine ZAM hmix [0,0,3,7,15,31,63,127,127,127,895,1919,3967,8191,16383,32767,65535,131071,131071,524287,1048575,2097151,131071,131071,12713983,29491199,63045631,134217727,268435455] [0,1,2,3,4,5,6,7,8,9,10,11] (some 12) [([],(some 13)),([14,15,16,17,18,19,20,21,22,23,24,25,26,27,28],none)] (by kernel_rfl) (by kernel_rfl) ?_;refine z_m ?_;refine z_m ?_;refine ZAB rfl rfl rfl rfl rfl (fun _=>A_ix (k:=j) Und.h Tsz.h rfl rfl) ?_;refine z_f ?_;refine z_l ?_;refine ZAB rfl rfl rfl rfl rfl (fun _=>A_tt c1 (ZAh rfl rfl)) ?_;refine z_m ?_;refine g_m ?_;refine g_m ?_;refine g_m ?_
   first|refine ZAW rfl rfl rfl rfl ?_|refine ZAB rfl rfl rfl rfl rfl (fun _=>A_ix (k:=j) Und.h Tsz.h rfl rfl) ?_
   refine g_r ?_;refine ZAK [0,1,2,3,4,5,6,8,9,10,11] (by kernel_rfl) rfl (ZAC rfl) rfl nb (dF (dF (dF (dF (kF (dF (dF (dF (dF (dF (dF (dF nF)))))))))))) (ZAc rfl rfl rfl rfl rfl Bod.h (ZA0 x _) (fun h5 hE5=>?_));have hc:=ZCd (cap:=F.length) (k:=x.key) (hS43.ext hE5).1 (show _<_ by omega);rw[decide_eq_false c2] at hc;refine ZAK [0,1,2,3,4,5,6,7,8,9,10,11,12] (by kernel_rfl) rfl (by refine o_m 7 ?_;exact ZAC rfl) rfl nb (dF nF) (ZAc rfl rfl rfl rfl rfl Bod.h hc (fun h6 hE6=>?_));have hc4:ZAb h6 b (o+j*6+4)=some (str x.a):=ZAP (k:=4) ((hE5.trans hE6).row hrow) rfl;have hc0:ZAb h6 b (o+j*6+0)=some (str x.archive):=ZAP (k:=0) ((hE5.trans hE6).row hrow) rfl
   refine g_n ?_;refine z_p ?_;refine z_m ?_;refine g_m ?_;refine g_m ?_
   first|refine ZAW rfl rfl rfl rfl ?_|refine ZAB rfl rfl rfl rfl rfl (fun _=>A_ix (k:=j) Und.h Tsz.h rfl rfl) ?_
   refine g_f ?_;refine g_l ?_;refine g_m ?_;refine g_m ?_
   first|refine ZAW rfl rfl rfl rfl ?_|refine ZAB rfl rfl rfl rfl rfl (fun _=>A_ix (k:=j) Und.h Tsz.h rfl rfl) ?_
   refine g_f ?_;refine g_l ?_
   first|refine ZAW rfl rfl rfl rfl ?_|refine ZAB rfl rfl rfl rfl rfl (fun _=>A_ff c3 (ZAf rfl rfl)) ?_
   refine z_p ?_;refine ZAT (ZAC rfl) nb' ?_;refine zy ?_;refine⟨(j+1,_),(by show L.length-(j+1)<L.length-j;omega),rfl,hE3.trans (hE5.trans hE6),hj',?_,rfl,rfl,rfl,rfl,trivial⟩;simp only;rw[hds];exact (hO3.ext hE5).ext hE6
  rw[if_pos (hdb.2 ⟨c1,c2,c3⟩)] at hds;refine zy ?_;refine ZAM hmix [0,0,3,7,15,31,63,127,127,127,895,1919,3967,8191,16383,32767,65535,131071,131071,524287,1048575,2097151,131071,131071,12713983,29491199,63045631,134217727,268435455] [0,1,2,3,4,5,6,7,8,9,10,11] (some 12) [([],(some 13)),([14,15,16,17,18,19,20,21,22,23,24,25,26,27,28],none)] (by kernel_rfl) (by kernel_rfl) ?_;refine z_m ?_;refine z_m ?_;refine ZAB rfl rfl rfl rfl rfl (fun _=>A_ix (k:=j) Und.h Tsz.h rfl rfl) ?_;refine z_f ?_;refine z_l ?_;refine ZAB rfl rfl rfl rfl rfl (fun _=>A_tt c1 (ZAh rfl rfl)) ?_;refine z_m ?_;refine g_m ?_;refine g_m ?_;refine g_m ?_
  first|refine ZAW rfl rfl rfl rfl ?_|refine ZAB rfl rfl rfl rfl rfl (fun _=>A_ix (k:=j) Und.h Tsz.h rfl rfl) ?_
  refine g_r ?_;refine ZAK [0,1,2,3,4,5,6,8,9,10,11] (by kernel_rfl) rfl (ZAC rfl) rfl nb (dF (dF (dF (dF (kF (dF (dF (dF (dF (dF (dF (dF nF)))))))))))) (ZAc rfl rfl rfl rfl rfl Bod.h (ZA0 x _) (fun h5 hE5=>?_));have hc:=ZCd (cap:=F.length) (k:=x.key) (hS43.ext hE5).1 (show _<_ by omega);rw[decide_eq_false c2] at hc;refine ZAK [0,1,2,3,4,5,6,7,8,9,10,11,12] (by kernel_rfl) rfl (by refine o_m 7 ?_;exact ZAC rfl) rfl nb (dF nF) (ZAc rfl rfl rfl rfl rfl Bod.h hc (fun h6 hE6=>?_));have hc4:ZAb h6 b (o+j*6+4)=some (str x.a):=ZAP (k:=4) ((hE5.trans hE6).row hrow) rfl;have hc0:ZAb h6 b (o+j*6+0)=some (str x.archive):=ZAP (k:=0) ((hE5.trans hE6).row hrow) rfl
  have hc5:ZAb h6 b (o+j*6+5)=some (str x.b):=ZAP (k:=5) ((hE5.trans hE6).row hrow) rfl;refine g_n ?_;refine z_p ?_;refine z_m ?_;refine g_m ?_;refine g_m ?_
  first|refine ZAW rfl rfl rfl rfl ?_|refine ZAB rfl rfl rfl rfl rfl (fun _=>A_ix (k:=j) Und.h Tsz.h rfl rfl) ?_
  refine g_f ?_;refine g_l ?_;refine g_m ?_;refine g_m ?_
  first|refine ZAW rfl rfl rfl rfl ?_|refine ZAB rfl rfl rfl rfl rfl (fun _=>A_ix (k:=j) Und.h Tsz.h rfl rfl) ?_
  refine g_f ?_;refine g_l ?_
  first|refine ZAW rfl rfl rfl rfl ?_|refine ZAB rfl rfl rfl rfl rfl (fun _=>A_tt c3 (ZAf rfl rfl)) ?_
  refine z_p ?_;refine ZAT (ZAC rfl) nb' ?_;have hE36:=hE5.trans hE6;have hE16:=hE3.trans hE36;have hO6:=hO3.ext hE36;clear hc hc3 hrow hE5 hE6;refine ZEd fun hw6=>?_;refine zy ?_;refine ZAM hmix [0,0,0,6,14,30,0,0,192,448,960,1984,4094,8190,16383,32767] [0,1,2,3,4,5,6,7,8,9,10] (some 11) [([12,13],(some 14)),([],(some 15)),([],none)] (by kernel_rfl) (by kernel_rfl) ?_;refine z_m ?_;refine z_m ?_;refine z_m ?_;refine ZAB rfl rfl rfl rfl rfl (fun _=>A_ix (k:=j) Und.h Tsz.h rfl rfl) ?_;refine z_f ?_;refine z_l ?_;refine z_m ?_;refine z_m ?_;refine ZAB rfl rfl rfl rfl rfl (fun _=>A_ix (k:=j) Und.h Tsz.h rfl rfl) ?_;refine z_f ?_;refine z_l ?_
  refine ZAK [6,7,8,9,10] (by kernel_rfl) rfl (ZAC rfl) rfl nb (dF (dF (dF (dF (dF (kF (kF (kF (kF (kF (kF nF))))))))))) (ZAj rfl rfl rfl rfl rfl Bod.h (ZGN x.b _ (by have:=hxf.b;show _<_;omega)) ?_);refine z_b ?_;refine ZC5 (nk:=.sl _ _) rfl rfl rfl rfl rfl (fun _ _ hs=>N_bs hs Und.h Tsz.h Zr.h rfl rfl rfl rfl rfl) ?_;have hE7:=Ext.add hw6 (.cells (rowK (tgtK x)) 51 false);refine ZAK (h1:=(Heap.add h6 _)) [0,1,2,3,4,5,6,7,8,9,10,11,12,13] (by kernel_rfl) rfl (by refine t_l 5 ?_;refine t_f 4 ?_;refine ZAn (i:=3) rfl rfl rfl rfl rfl (fun _=>A_ix (k:=j) Und.h Tsz.h rfl rfl) rfl ?_;refine t_m 2 ?_;refine t_m 1 ?_;refine t_m 0 ?_;exact ZAC rfl) rfl rfl (dF (dF (dF (dF (dF (dF (dF (dF nF)))))))) (ZBU (ZBS (by':=24) (sz:=2) (k:=1) (l:=rowK (tgtK x)) rfl hw2 (hE16.trans hE7) rfl rfl rfl rfl Und.h inferInstance rfl rfl (hO6.ext hE7) ((ZAA.lit (h0:=h2) (n:=1) (sz:=2) Heap.get_add_same rfl hE16.2.1).src (dd:=.slice 51) Und.h (by intro k;simp)) rfl rfl (by omega) (by omega) (fun v14 h14 hO14 hE14 hw14=>?_)))
  refine ZAK (h1:=h14) [0,1,2,3,4,5,6,7,8,9,10,11,12,13,14] (by kernel_rfl) rfl (ZAC rfl) rfl rfl nF (ZDm rfl rfl (ZBG rfl) ?_);refine ZAT (h1:=h14) (ZAC rfl) rfl ?_;refine zy ?_;refine⟨(j+1,v14),(by show L.length-(j+1)<L.length-j;omega),rfl,?_,hj',?_,rfl,rfl,rfl,rfl,trivial⟩
  ·exact hE14
  simp only;rw[hds,List.flatMap_append,List.flatMap_singleton,List.length_append,List.length_singleton];exact hO14
 rintro _ m _ h3 ⟨rfl,rfl,hE23,v5,hO3,hall⟩
 show Wc _ _ _ _ _ _ _
 refine Wc.le ?_ (Le.kn hall);clear hall;have hD:∃D,ZEB L L=D:=⟨_,rfl⟩;obtain⟨D,hDg⟩:=hD;have hDl:D.length<=1000000:=by
  rw[<-hDg];unfold ZEB;rw[List.length_map];exact Nat.le_trans (List.length_filter_le _ _) hLn
 rw[hDg] at hO3;obtain⟨a5,rfl,hS5,-⟩:=ZAA.rowsAt (enc:=rowK) (k:=2) (fun _=>rfl) (show ZAA h2 h3 v5 51 2 _ _ from hO3.p1) rfl;have hS43:=hS4.ext hE23;have hL3:=hL1.ext (hE12.trans hE23);have hE13:=hE12.trans hE23;refine ZEd fun hw3=>?_;clear hS4 hL1 hE12 hE23 hO2;refine zy ?_;refine Wc.mono (Q:=fun z m' ds' h'=>z=.exit 4/\ds'=[]/\Ext h3 h'/\∃v8,Own h3 h' [slI h3 v8 44 6 ((ZAe L).flatMap rowW) (ZAe L).length]/\AllK m' [(4,.slice a4 F.length F.length),(8,v8)]) ?_ ?_
 ·refine ZAQ (fun (s:Nat×Value) m ds h'=>ds=[]/\Ext h3 h'/\s.1<=L.length/\Own h3 h' [slI h3 s.2 44 6 (((L.take s.1).filter (ZBs L)).flatMap rowW) ((L.take s.1).filter (ZBs L)).length] ∧
    AllK m [(0,.slice aL L.length L.length),(4,.slice a4 F.length F.length),(5,.slice a5 D.length D.length),(8,s.2),(9,i64 s.1)]) (fun s=>L.length-s.1) (0,.slice none 0 0) ?_ ?_
  ·exact⟨rfl,Ext.refl _,Nat.zero_le _,(Own.nil _ _).nilSl _ _,rfl,rfl,rfl,rfl,rfl,trivial⟩
  rintro⟨j,v8⟩ m ds h4 ⟨rfl,hE4,hj,hO4,hall⟩;simp only at hj hO4 hall;refine Wc.le ?_ (Le.kn hall);clear hall;refine zy ?_;refine ZAN rfl rfl rfl rfl (ZAY rfl rfl) (fun hjl=>?_) (fun hjl=>?_);rotate_left
  ·have:j=L.length:=by omega
   subst this;rw[List.take_length] at hO4;refine zy ?_;exact⟨rfl,rfl,hE4,v8,hO4,rfl,rfl,trivial⟩
  have hj':j<L.length:=by omega
  have hfi:(L.take (j+1)).filter (ZBs L)=(L.take j).filter (ZBs L)++if ZBs L L[j] then [L[j]] else []:=by
   rw[List.take_add_one,List.getElem?_eq_getElem hj',List.filter_append]
   congr 1
   show List.filter _ [_]=_
   by_cases q:ZBs L L[j]=true <;> simp[q]
  have hsb:ZBs L L[j]=true ↔ L[j].kind≠6/\L[j].key ∉ F/\L[j].key ∉ D:=by
   unfold ZBs;rw[decide_eq_true_iff,hcnt _ (List.getElem_mem hj'),hDg]
  have hfl:((L.take j).filter (ZBs L)).length<=1000000:=Nat.le_trans (List.length_filter_le _ _) (by rw[List.length_take];omega);obtain⟨b,o,oa,rfl,row,hrow0,hx⟩:=hL3.1 j hj';have hrow:=hE4.row hrow0;have ex:row=rowW L[j]:=hx;clear hx hrow0;generalize L[j]=x at *;subst ex;have hc3:ZAb h4 b (o+j*6+3)=some (i64 x.kind):=ZAP (k:=3) hrow rfl;have hE14:=hE13.trans hE4;have hS44:=hS43.ext hE4;have hS54:=hS5.ext hE4
  by_cases c1:x.kind=6
  ·rw[if_neg (fun q=>(hsb.1 q).1 c1),List.append_nil] at hfi
   refine zy ?_;refine ZAD rfl rfl rfl rfl (A_ix Und.h Tsz.h rfl rfl) ?_;refine zy ?_;refine ZAD rfl rfl rfl rfl (A_ff (fun q=>q c1) (ZA3 rfl rfl)) ?_;refine zy ?_;refine⟨(j+1,_),(by show L.length-(j+1)<L.length-j;omega),rfl,hE4,hj',?_,rfl,rfl,rfl,rfl,rfl,trivial⟩;simp only;rw[hfi];exact hO4
  refine zy ?_;refine ZAD rfl rfl rfl rfl (A_ix Und.h Tsz.h rfl rfl) ?_;refine zy ?_;refine ZAD rfl rfl rfl rfl (A_tt c1 (ZA3 rfl rfl)) ?_;refine zy ?_;refine ZAD rfl rfl rfl rfl (A_ix Und.h Tsz.h rfl rfl) ?_;refine zy ?_;refine ZAV rfl rfl rfl rfl rfl Bod.h rfl rfl (ZA0 x _) fun h5 hE5=>?_;refine zy ?_;have hc:=ZCd (cap:=F.length) (k:=x.key) (hS44.ext hE5).1 (show _<_ by omega)
  by_cases c2:x.key∈F
  ·rw[if_neg (fun q=>(hsb.1 q).2.1 c2),List.append_nil] at hfi
   rw[decide_eq_true c2] at hc;refine ZAV rfl rfl rfl rfl rfl Bod.h rfl rfl hc fun h6 hE6=>?_;refine zy ?_;refine⟨(j+1,_),(by show L.length-(j+1)<L.length-j;omega),rfl,hE4.trans (hE5.trans hE6),hj',?_,rfl,rfl,rfl,rfl,rfl,trivial⟩;simp only;rw[hfi];exact (hO4.ext hE5).ext hE6
  rw[decide_eq_false c2] at hc;refine ZAV rfl rfl rfl rfl rfl Bod.h rfl rfl hc fun h6 hE6=>?_;have hE46:=hE5.trans hE6;have hrow6:=hE46.row hrow;refine zy ?_;refine ZAD rfl rfl rfl rfl (A_ix Und.h Tsz.h rfl rfl) ?_;refine zy ?_;refine ZAV rfl rfl rfl rfl rfl Bod.h rfl rfl (ZA0 x _) fun h7 hE7=>?_;have hE47:=hE46.trans hE7;refine zy ?_;have hc':=ZCd (cap:=D.length) (k:=x.key) (hS54.ext hE47).1 (show _<_ by omega)
  by_cases c3:x.key∈D
  ·rw[if_neg (fun q=>(hsb.1 q).2.2 c3),List.append_nil] at hfi
   rw[decide_eq_true c3] at hc';refine ZAV rfl rfl rfl rfl rfl Bod.h rfl rfl hc' fun h8 hE8=>?_;refine zy ?_;refine⟨(j+1,_),(by show L.length-(j+1)<L.length-j;omega),rfl,hE4.trans (hE47.trans hE8),hj',?_,rfl,rfl,rfl,rfl,rfl,trivial⟩;simp only;rw[hfi];exact (hO4.ext hE47).ext hE8
  rw[if_pos (hsb.2 ⟨c1,c2,c3⟩)] at hfi;rw[decide_eq_false c3] at hc';refine ZAV rfl rfl rfl rfl rfl Bod.h rfl rfl hc' fun h8 hE8=>?_;have hE48:=hE47.trans hE8;have hrow8:=hE48.row hrow;have hO8:=hO4.ext hE48;clear hrow hrow6 hc hc' hc3 hE5 hE6 hE7 hE46 hE47;refine zy ?_;refine ZAD rfl rfl rfl rfl (A_ix Und.h Tsz.h rfl rfl) ?_;refine zy ?_;refine ZBm rfl rfl Und.h Tsz.h Zr.h rfl rfl rfl rfl rfl fun h11 hE11 hW11 hg11 hn11=>?_;refine zy ?_;refine ZA6 (k:=1) (l:=rowW x) hw3 ((hE4.trans hE48).trans hE11) rfl rfl rfl rfl rfl Und.h inferInstance rfl rfl (hO8.ext hE11) (ZBA Und.h (by intro k;simp) (ZAZ hg11 rfl)) rfl rfl (by omega) (by omega) fun v12 h12 hW12 hO12 hE12=>?_
  refine zy ?_;refine⟨(j+1,v12),(by show L.length-(j+1)<L.length-j;omega),rfl,?_,hj',?_,rfl,rfl,rfl,rfl,rfl,trivial⟩
  ·exact hE12
  simp only;rw[hfi,List.flatMap_append,List.flatMap_singleton,List.length_append,List.length_singleton];exact hO12
 rintro _ m _ h4 ⟨rfl,rfl,hE34,v8,hO4,hall⟩
 show Wc _ _ _ _ _ _ _
 refine Wc.le ?_ (Le.kn hall);clear hall;obtain⟨a8,rfl,hS8,-⟩:=ZAA.rowsAt (enc:=rowW) (k:=6) (fun _=>rfl) (show ZAA h3 h4 v8 44 6 _ _ from hO4.p1) rfl;refine zy ?_;refine ZAE (ZAF rfl ⟨⟨a8,a4,by rw[hFg];rfl,hS8,by rw[hFg];exact hS43.ext hE34⟩,hE1.trans (hE13.trans hE34)⟩)
end Go.Dw
