/- H1: parts of slices of records; the reference's list of keys that is looked through. -/
import Derived.Test.YthlmgoefjmlndaaGreatDoorUG2
import Derived.Test.YthlmgoefjmlndaaGreatDoorUG19
import Derived.Test.YthlmgoefjmlndaaGreatDoorUG8
import Derived.Test.YthlmgoefjmlndaaGreatDoorUG18
set_option linter.unusedVariables false
set_option linter.unusedSimpArgs false
namespace Go.Dw
open Go Go.Dx Go.Proofs
set_option maxRecDepth 100000
section
variable {P:Program}{m:Mem}{h:Heap}{d:Option Tmp}{ty:TypeId}{pos:String}{af:Array Edge}{gu:Option (Nat×Bool)}
theorem ZRb {t el:TypeId}{sz:Nat}{x j:Operand}{kj:IntKind}(ht:P.underlying t=some (.slice el))(hz:tsz P el=some sz)(hx:opk h m x=some (.slice none 0 0))(hj:opk h m j=some (.int kj 0)):Aop P ⟨d,.slice t x none (some j) none,ty,pos,af,gu⟩ m h (.slice none 0 0) h:=by
 refine ZD2 hx hj rfl rfl rfl fun ev w h1 h2=>?_;have hsb:sb 0 0 none (some (.int kj 0)) none=some (0,0,0):=rfl;obtain⟨hrun,_,hm0,_⟩:=ZIM (P:=P) (ι:=fun _=>none) (lo':=none) (hi':=some (.int kj 0)) (mx':=none) .none (.some (.int kj 0)) .none hsb (Nat.le_refl _) true w;simp only[execOp,h1,h2,Option.map_some,Option.map_none,Instr.sliceAt,Instr.slice,Sem.run_bind,run_underlying ht,Result.andThen_ok,hrun,Dx.run_sizeOf hz,Sem.run_pure]
 rfl
theorem ZNo {t el:TypeId}{sz:Nat}{x j:Operand}{kj:IntKind}(ht:P.underlying t=some (.slice el))(hz:tsz P el=some sz)(hx:opk h m x=some (.slice none 0 0))(hj:opk h m j=some (.int kj 0)):Aop P ⟨d,.slice t x (some j) none none,ty,pos,af,gu⟩ m h (.slice none 0 0) h:=by
 refine ZD2 hx hj rfl rfl rfl fun ev w h1 h2=>?_;have hsb:sb 0 0 (some (.int kj 0)) none none=some (0,0,0):=rfl;obtain⟨hrun,_,hm0,_⟩:=ZIM (P:=P) (ι:=fun _=>none) (lo':=some (.int kj 0)) (hi':=none) (mx':=none) (.some (.int kj 0)) .none .none hsb (Nat.le_refl _) true w;simp only[execOp,h1,h2,Option.map_some,Option.map_none,Instr.sliceAt,Instr.slice,Sem.run_bind,run_underlying ht,Result.andThen_ok,hrun,Dx.run_sizeOf hz,Sem.run_pure]
 rfl
end
theorem ZNx {α:Type}{enc:α->List Value}{k:Nat}(hk:∀x,(enc x).length=k)(L:List α){i:Nat}(hi:i<=L.length):(L.flatMap enc).take (i*k)=(L.take i).flatMap enc:=by
 have e:L.flatMap enc=(L.take i).flatMap enc++(L.drop i).flatMap enc:=by rw[<-List.flatMap_append,List.take_append_drop]
 rw[e];exact List.take_left' (by rw[ZAj hk,List.length_take,Nat.min_eq_left hi])
theorem ZNk {α:Type}{enc:α->List Value}{k:Nat}(hk:∀x,(enc x).length=k)(L:List α){i:Nat}(hi:i<=L.length):(L.flatMap enc).drop (i*k)=(L.drop i).flatMap enc:=by
 have e:L.flatMap enc=(L.take i).flatMap enc++(L.drop i).flatMap enc:=by rw[<-List.flatMap_append,List.take_append_drop]
 rw[e];exact List.drop_left' (by rw[ZAj hk,List.length_take,Nat.min_eq_left hi])
theorem ZTP {h0 h:Heap}{v:Value}{L:List WkR}{i:Nat}(hF:ZAB h0 h v 44 6 (L.flatMap rowW) L.length)(hn:L=[]->v=.slice none 0 0)(hi:i<=L.length):∃v',(∀h1 h0',ZAB h0' h1 v 44 6 (L.flatMap rowW) L.length->asrc Tryz.prog 44 6 22 v' h1=some (i,(L.take i).flatMap rowW))/\∀{h':Heap}{m:Mem}{d:Option Tmp}{ty:TypeId}{pos:String}{af:Array Edge}{gu:Option (Nat×Bool)}{x j:Operand},opk h' m x=some v->opk h' m j=some (i64 (i:Int))->Aop Tryz.prog ⟨d,.slice 22 x none (some j) none,ty,pos,af,gu⟩ m h' v' h':=by
 rcases Nat.eq_zero_or_pos L.length with hz|hpos
 ·have hL:L=[]:=List.eq_nil_of_length_eq_zero hz
  subst hL;obtain rfl:i=0:=Nat.le_zero.1 hi;obtain rfl:=hn rfl;exact⟨.slice none 0 0,fun h1 h0' hF1=>hF1.src (dd:=.slice 44) Und.h (by intro k;simp),fun hx hj=>ZRb Und.h Tsz.h hx hj⟩
 ·obtain⟨w1,hz1,hA1⟩:=ZOP (P:=Tryz.prog) (ki:=.i64) (t:=22) (tX:=22) (dd:=.slice 44) (z:=5) hF hpos Und.h Tsz.h Und.h (by intro k;simp) hi
  rw[ZNx (enc:=rowW) (k:=5+1) (fun _=>rfl) L hi] at hz1;exact⟨w1,hz1,hA1⟩
theorem ZQ6 {h0 h:Heap}{v:Value}{L:List WkR}{i:Nat}(hF:ZAB h0 h v 44 6 (L.flatMap rowW) L.length)(hn:L=[]->v=.slice none 0 0)(hi:i<=L.length):∃v',(∀h1 h0',ZAB h0' h1 v 44 6 (L.flatMap rowW) L.length->asrc Tryz.prog 44 6 22 v' h1=some (L.length-i,(L.drop i).flatMap rowW))/\∀{h':Heap}{m:Mem}{d:Option Tmp}{ty:TypeId}{pos:String}{af:Array Edge}{gu:Option (Nat×Bool)}{x j:Operand},opk h' m x=some v->opk h' m j=some (i64 (i:Int))->Aop Tryz.prog ⟨d,.slice 22 x (some j) none none,ty,pos,af,gu⟩ m h' v' h':=by
 rcases Nat.eq_zero_or_pos L.length with hz|hpos
 ·have hL:L=[]:=List.eq_nil_of_length_eq_zero hz
  subst hL;obtain rfl:i=0:=Nat.le_zero.1 hi;obtain rfl:=hn rfl;exact⟨.slice none 0 0,fun h1 h0' hF1=>hF1.src (dd:=.slice 44) Und.h (by intro k;simp),fun hx hj=>ZNo Und.h Tsz.h hx hj⟩
 ·obtain⟨w1,hz1,hA1⟩:=ZKb (P:=Tryz.prog) (ki:=.i64) (t:=22) (tX:=22) (dd:=.slice 44) (z:=5) hF hpos Und.h Tsz.h Und.h (by intro k;simp) hi
  rw[ZNk (enc:=rowW) (k:=5+1) (fun _=>rfl) L hi] at hz1;exact⟨w1,hz1,hA1⟩
theorem ZP4 {x:WkR}:∀{L:List WkR}{i:Nat},i<=L.length->(∀j (hj:j<L.length),j<i->ltW L[j] x)->(∀h:i<L.length,¬ltW L[i] x)->insU ltW x L=if ∃h:i<L.length,L[i]=x then L else L.take i++x::L.drop i
 | [],i,hi,_,_=>by
  obtain rfl:i=0:=Nat.le_zero.1 hi;rw[if_neg (fun ⟨h,_⟩=>absurd h (Nat.not_lt_zero _))]
  rfl
 | y::L,0,_,_,h2=>by
  have:¬ltW y x:=h2 (Nat.zero_lt_succ _);rw[insU,if_neg this]
  by_cases e:y=x
  ·rw[if_pos e,if_pos ⟨Nat.zero_lt_succ _,e⟩]
  ·rw[if_neg e,if_neg (fun ⟨_,q⟩=>e q)];rfl
 | y::L,i+1,hi,h1,h2=>by
  have hy:ltW y x:=h1 0 (Nat.zero_lt_succ _) (Nat.zero_lt_succ _);rw[insU,if_pos hy,ZP4 (L:=L) (i:=i) (Nat.le_of_succ_le_succ hi) (fun j hj hlt=>h1 (j+1) (Nat.succ_lt_succ hj) (Nat.succ_lt_succ hlt)) (fun h=>h2 (Nat.succ_lt_succ h))]
  by_cases e:∃h:i<L.length,L[i]=x
  ·obtain⟨h,q⟩:=e
   rw[if_pos ⟨h,q⟩,if_pos ⟨Nat.succ_lt_succ h,q⟩]
  ·rw[if_neg e,if_neg (fun ⟨h,q⟩=>e ⟨Nat.lt_of_succ_lt_succ h,q⟩)]
   rfl
end Go.Dw
namespace Go.Dw
open Go Go.Dx Go.Proofs
set_option maxRecDepth 100000
set_option maxHeartbeats 2000000 in
theorem ZPh {a:Option Addr}{cap:Nat}{l:List WkR}{h:Heap}(hR:ZHB h a l)(hlen:l.length<=1000000) :
  Sv Tryz.prog 89 [.slice a l.length cap] h (RetP fun v h'=>ZAB h h' v 44 6 ((mrgU ltW l).flatMap rowW) (mrgU ltW l).length/\Ext h h'):=by
 refine ZDC fun hw=>?_;refine ZAG Tryz.func89 rfl (by rw[Tryz.ntmps89];rfl) ?_;show Wc Tryz.prog ⟨89,60,none⟩ _ _ _ _ _;refine zy ?_
 refine ZAP (fun (s:Nat×Value) m ds h'=>ds=[]/\s.1<=l.length/\Ext h h'/\Own h h' [slI h s.2 44 6 ((mrgU ltW (l.take s.1)).flatMap rowW) (mrgU ltW (l.take s.1)).length]/\(mrgU ltW (l.take s.1)=[]->s.2=.slice none 0 0) ∧
   AllK m [(0,.slice a l.length cap),(3,s.2),(4,i64 s.1)]) (fun s=>l.length-s.1) (0,.slice none 0 0) ?_ ?_
 ·exact⟨rfl,Nat.zero_le _,Ext.refl _,(Own.nil _ _).nilSl _ _,fun _=>rfl,rfl,rfl,rfl,trivial⟩
 rintro⟨k,v⟩ m ds h3 ⟨rfl,hk,hE3,hO3,hnil,hall⟩;simp only at hk hO3 hall hnil;refine Wc.le ?_ (Le.kn hall);refine zy ?_;refine ZAK rfl rfl rfl rfl (ZAV rfl rfl) (fun h4=>?_) (fun h4=>?_);rotate_left
 ·have:k=l.length:=by omega
  subst this;rw[List.take_length] at hO3;refine zy ?_;exact ZAE (ZAF rfl ⟨hO3.p1,hE3⟩)
 have hk':k<l.length:=by omega
 have htk:mrgU ltW (l.take (k+1))=insU ltW l[k] (mrgU ltW (l.take k)):=by
  rw[List.take_add_one,List.getElem?_eq_getElem hk'];exact ZPM _ _
 have hLn:(mrgU ltW (l.take k)).length<=1000000:=Nat.le_trans (ZCm ZAn _) (by rw[List.length_take];omega);obtain⟨b,o,oa,rfl,row,hrow,hma⟩:=hR k hk';have hma':row=rowW l[k]:=hma;clear hma;generalize l[k]=y at *;subst hma';generalize mrgU ltW (l.take k)=L at *;have hF3:ZAB h h3 v 44 6 (L.flatMap rowW) L.length:=hO3.p1;obtain⟨aL,hv,hLr,-⟩:=ZAB.rowsAt (enc:=rowW) (k:=6) (fun _=>rfl) hF3 rfl;subst hv;refine zy ?_
 refine Wc.mono (Q:=fun z m' ds' h'=>z=.exit 2/\ds'=[]/\Ext h3 h'/\∃i,i<=L.length/\(∀j (hj:j<L.length),j<i->ltW L[j] y)/\(∀h:i<L.length,¬ltW L[i] y) ∧
   AllK m' [(0,.slice (some ⟨b,o,oa⟩) l.length cap),(3,.slice aL L.length L.length),(4,i64 k),(5,i64 i)]) ?_ ?_
 ·refine ZAP (fun (i:Nat) m ds h'=>ds=[]/\Ext h3 h'/\i<=L.length/\(∀j (hj:j<L.length),j<i->ltW L[j] y) ∧
    AllK m [(0,.slice (some ⟨b,o,oa⟩) l.length cap),(3,.slice aL L.length L.length),(4,i64 k),(5,i64 i)]) (fun i=>L.length-i) 0 ?_ ?_
  ·exact⟨rfl,Ext.refl _,Nat.zero_le _,(fun _ _ hj=>by omega),rfl,rfl,rfl,rfl,trivial⟩
  clear hall;rintro i m ds h5 ⟨rfl,hE5,hi,hlo,hall⟩;refine Wc.le ?_ (Le.kn hall);refine zy ?_
  by_cases h6:i<L.length
  rotate_left
  ·refine ZAS hmix [0,0,2,7,15,31,31,127,255,31,31,1567,3615,8191,16383] [0,1,2,3,4,5,6,7,8,9,10,11,12] (some 13) [([14],none)] (by kernel_rfl) (by kernel_rfl) ?_
   refine z_m ?_;refine z_m ?_;refine z_c ?_;refine ZAC rfl rfl rfl rfl rfl (fun _=>A_ff (by omega) (ZAV rfl rfl)) ?_;refine z_m ?_;refine g_m ?_;refine g_m ?_;refine g_i ?_;refine g_r ?_;refine g_m ?_;refine g_m ?_;refine g_i ?_;refine g_r ?_;refine ZAM [0,1,2,3,4,5,6,7,8,9,10,11,12] (by kernel_rfl) rfl (ZAD rfl) rfl nb (dF (dF (dF (dF (dF (dF (dF (dF (dF (dF (dF (dF (dF nF))))))))))))) (ZCr rfl ?_);refine z_p ?_;refine ZAU (ZAD rfl) nb' ?_;refine zy ?_;exact⟨rfl,rfl,hE5,i,hi,hlo,(fun h=>absurd h h6),rfl,rfl,rfl,rfl,trivial⟩
  have hi':i<L.length:=h6;obtain⟨b2,o2,oa2,rfl,row2,hrow2,hma2⟩:=(hLr.ext hE5).1 i hi';have hma2':row2=rowW L[i]:=hma2;subst hma2';have hrow5:=(hE3.trans hE5).row hrow;have hls:=ZSV L[i] y h5
  by_cases h7:ltW L[i] y
  ·rw[decide_eq_true h7] at hls
   refine ZAS hmix [0,0,2,7,15,31,31,127,255,31,31,1567,3615,8191,16383] [0,1,2,3,4,5,6,7,8,9,10,11,12] (some 13) [([14],none)] (by kernel_rfl) (by kernel_rfl) ?_;refine z_m ?_;refine z_m ?_;refine z_c ?_;refine ZAC rfl rfl rfl rfl rfl (fun _=>A_tt (by omega) (ZAV rfl rfl)) ?_;refine z_m ?_;refine g_m ?_;refine g_m ?_
   first|refine ZAb rfl rfl rfl rfl ?_|refine ZAC rfl rfl rfl rfl rfl (fun _=>A_ix Und.h Tsz.h rfl rfl) ?_
   refine g_r ?_;refine g_m ?_;refine g_m ?_
   first|refine ZAb rfl rfl rfl rfl ?_|refine ZAC rfl rfl rfl rfl rfl (fun _=>A_ix Und.h Tsz.h rfl rfl) ?_
   refine g_r ?_;refine ZAM [0,1,2,3,4,5,6,7,8,9,10,11,12] (by kernel_rfl) rfl (ZAD rfl) rfl nb (dF (dF (dF (dF (dF (dF (dF (dF (dF (dF (dF (dF (dF nF))))))))))))) (ZBA rfl rfl rfl rfl rfl Bod.h hls (fun h8 hE8=>?_));refine z_p ?_;refine ZAU (ZAD rfl) nb' ?_;refine zy ?_;refine⟨i+1,(by show L.length-(i+1)<L.length-i;omega),rfl,hE5.trans hE8,hi',?_,rfl,rfl,rfl,rfl,trivial⟩;intro j hj hlt
   rcases Nat.lt_or_ge j i with g|g
   ·exact hlo j hj g
   ·have:j=i:=by omega
    subst this;exact h7
  ·rw[decide_eq_false h7] at hls
   refine ZAS hmix [0,0,2,7,15,31,31,127,255,31,31,1567,3615,8191,16383] [0,1,2,3,4,5,6,7,8,9,10,11,12] (some 13) [([14],none)] (by kernel_rfl) (by kernel_rfl) ?_;refine z_m ?_;refine z_m ?_;refine z_c ?_;refine ZAC rfl rfl rfl rfl rfl (fun _=>A_tt (by omega) (ZAV rfl rfl)) ?_;refine z_m ?_;refine g_m ?_;refine g_m ?_
   first|refine ZAb rfl rfl rfl rfl ?_|refine ZAC rfl rfl rfl rfl rfl (fun _=>A_ix Und.h Tsz.h rfl rfl) ?_
   refine g_r ?_;refine g_m ?_;refine g_m ?_
   first|refine ZAb rfl rfl rfl rfl ?_|refine ZAC rfl rfl rfl rfl rfl (fun _=>A_ix Und.h Tsz.h rfl rfl) ?_
   refine g_r ?_;refine ZAM [0,1,2,3,4,5,6,7,8,9,10,11,12] (by kernel_rfl) rfl (ZAD rfl) rfl nb (dF (dF (dF (dF (dF (dF (dF (dF (dF (dF (dF (dF (dF nF))))))))))))) (ZBA rfl rfl rfl rfl rfl Bod.h hls (fun h8 hE8=>?_));refine z_p ?_;refine ZAU (ZAD rfl) nb' ?_;refine zy ?_;exact⟨rfl,rfl,hE5.trans hE8,i,hi,hlo,(fun _=>h7),rfl,rfl,rfl,rfl,trivial⟩
 clear hall;rintro _ m _ h5 ⟨rfl,rfl,hE35,i,hi,hlo,hhi,hall⟩
 show Wc _ _ _ _ _ _ _
 refine Wc.le ?_ (Le.kn hall);have hins:=ZP4 hi hlo hhi;rw[<-htk] at hins;have hE5:=hE3.trans hE35;have hO5:=hO3.ext hE35;have hF5:ZAB h h5 (.slice aL L.length L.length) 44 6 (L.flatMap rowW) L.length:=hO5.p1;have hL5:=hLr.ext hE35;have hrow5:=hE5.row hrow;clear hlo hhi hall hF3 hLr hO3 hE3
 by_cases hsame:∃h:i<L.length,L[i]=y
 ·rw[if_pos hsame] at hins
  obtain⟨hi',he⟩:=hsame;obtain⟨b2,o2,oa2,rfl,row2,hrow2,hma2⟩:=hL5.1 i hi';have hma2':row2=rowW y:=by rw[<-he];exact hma2
  subst hma2';refine zy ?_;refine ZAS hmix [0,0,2,7,15,31,31,127,255,31,31,1567,3615,8191,16383] [0,1,2,3,4,5,6,7,8,9,10,11,12,13,14] none [] (by kernel_rfl) (by kernel_rfl) ?_;refine z_m ?_;refine z_m ?_;refine z_c ?_;refine ZAC rfl rfl rfl rfl rfl (fun _=>A_tt (by omega) (ZAV rfl rfl)) ?_;refine z_m ?_;refine g_m ?_;refine g_m ?_
  first|refine ZAb rfl rfl rfl rfl ?_|refine ZAC rfl rfl rfl rfl rfl (fun _=>A_ix Und.h Tsz.h rfl rfl) ?_
  refine g_r ?_;refine g_m ?_;refine g_m ?_
  first|refine ZAb rfl rfl rfl rfl ?_|refine ZAC rfl rfl rfl rfl rfl (fun _=>A_ix Und.h Tsz.h rfl rfl) ?_
  refine g_r ?_
  first|refine ZAb rfl rfl rfl rfl ?_|refine ZAC rfl rfl rfl rfl rfl (fun _=>A_tt rfl (ZH7 recK (a:=y) (b:=y) rfl rfl recG rfl rfl)) ?_
  refine z_p ?_;refine ZAU (ZAD rfl) nb' ?_;refine zy ?_;refine⟨(k+1,_),?_,rfl,hk',hE5,?_,?_,rfl,rfl,rfl,trivial⟩
  ·show l.length-(k+1)<l.length-k;omega
  ·rw[hins];exact hO5
  ·rw[hins];exact hnil
 rw[if_neg hsame] at hins;have hti:(L.take i).length=i:=by rw[List.length_take];omega
 have hdi:(L.drop i).length=L.length-i:=List.length_drop;refine ZHN (Wc.mono (Q:=fun z m' ds' h'=>z=.normal/\ds'=[]/\h5=h'/\AllK m' [(0,.slice (some ⟨b,o,oa⟩) l.length cap),(3,.slice aL L.length L.length),(4,i64 k),(5,i64 i)]) ?_ ?_)
 ·by_cases h6:i<L.length
  ·have hne:¬L[i]=y:=fun e=>hsame ⟨h6,e⟩
   obtain⟨b2,o2,oa2,rfl,row2,hrow2,hma2⟩:=hL5.1 i h6;have hma2':row2=rowW L[i]:=hma2;subst hma2';refine zy ?_;refine ZAS hmix [0,0,2,7,15,31,31,127,255,31,31,1567,3615,8191,16383] [0,1,2,3,4,5,6,7,8,9,10,11,12,13,14] none [] (by kernel_rfl) (by kernel_rfl) ?_;refine z_m ?_;refine z_m ?_;refine z_c ?_;refine ZAC rfl rfl rfl rfl rfl (fun _=>A_tt (by omega) (ZAV rfl rfl)) ?_;refine z_m ?_;refine g_m ?_;refine g_m ?_
   first|refine ZAb rfl rfl rfl rfl ?_|refine ZAC rfl rfl rfl rfl rfl (fun _=>A_ix Und.h Tsz.h rfl rfl) ?_
   refine g_r ?_;refine g_m ?_;refine g_m ?_
   first|refine ZAb rfl rfl rfl rfl ?_|refine ZAC rfl rfl rfl rfl rfl (fun _=>A_ix Und.h Tsz.h rfl rfl) ?_
   refine g_r ?_
   first|refine ZAb rfl rfl rfl rfl ?_|refine ZAC rfl rfl rfl rfl rfl (fun _=>A_ff hne (ZH7 recK (a:=L[i]) (b:=y) rfl rfl recG rfl rfl)) ?_
   refine z_p ?_;refine ZAU (ZAD rfl) nb' ?_;refine zy ?_;exact⟨rfl,rfl,rfl,rfl,rfl,rfl,rfl,trivial⟩
  ·refine zy ?_
   refine ZAS hmix [0,0,2,7,15,31,31,127,255,31,31,1567,3615,8191,16383] [0,1,2,3,4,5,6,7,8,9,10,11,12,13,14] none [] (by kernel_rfl) (by kernel_rfl) ?_;refine z_m ?_;refine z_m ?_;refine z_c ?_;refine ZAC rfl rfl rfl rfl rfl (fun _=>A_ff (by omega) (ZAV rfl rfl)) ?_;refine z_m ?_;refine g_m ?_;refine g_m ?_;refine g_i ?_;refine g_r ?_;refine g_m ?_;refine g_m ?_;refine g_i ?_;refine g_r ?_;refine z_o ?_;refine z_p ?_;refine ZAU (ZAD rfl) nb' ?_;refine zy ?_;exact⟨rfl,rfl,rfl,rfl,rfl,rfl,rfl,trivial⟩
 rintro _ m _ _ ⟨rfl,rfl,rfl,hall⟩
 show Wc _ _ _ _ _ _ _
 refine Wc.le ?_ (Le.kn hall);obtain⟨w1,hz1,hA1⟩:=ZTP hF5 hnil hi;obtain⟨w2,hz2,hA2⟩:=ZQ6 hF5 hnil hi;refine ZGU fun hw5=>?_;have hEa0:=Ext.add hw5 (.cells [] 44 false);have hEa:=hEa0.trans (Ext.rsv (Heap.add h5 (.cells [] 44 false)));have hOa0:Own h (Heap.add h5 (.cells [] 44 false)) [slI h (.slice (some ⟨h5.nx,0,none⟩) 0 0) 44 6 [] 0,slI h (.slice aL L.length L.length) 44 6 (L.flatMap rowW) L.length]:=hO5.newSl hw5 hE5.2.1 hEa0 (ZAB.lit Heap.get_add_same rfl (Nat.le_refl _));have hne:=hOa0.ne (hw5.add _) (Nat.le_refl (h5.nx+1));have hn5:=hE5.2.1;clear hall;refine zy ?_;refine ZAS hmix [0,0,0,6,15,0,0,96,224,480,1023,0,0,6144,16383,32767] [0,1,2,3,5,6,7,8,9,11,12,13] (some 4) [([],(some 10)),([],(some 14)),([],(some 15)),([],none)] (by kernel_rfl) (by kernel_rfl) ?_
 refine ZHh (nk:=.sl _ _) rfl rfl rfl rfl rfl (fun _ _ hs=>N_bs hs Und.h Tsz.h Zr.h rfl rfl rfl rfl rfl) ?_;refine z_m ?_;refine z_m ?_;refine ZAC rfl rfl rfl rfl rfl (fun _=>hA1 rfl rfl) ?_;refine z_m ?_;refine z_m ?_;refine z_i ?_;refine z_r ?_;refine ZHh (nk:=.sl _ _) rfl rfl rfl rfl rfl (fun _ _ hs=>N_bs hs Und.h Tsz.h Zr.h rfl rfl rfl rfl rfl) ?_;refine z_m ?_;refine z_m ?_;refine ZAC rfl rfl rfl rfl rfl (fun _=>hA2 rfl rfl) ?_;refine ZAM (h1:=(rsv (Heap.add h5 _))) [0,1,2,3] (by kernel_rfl) rfl (ZAD rfl) rfl rfl (kF (kF (kF (kF (kF (kF (kF (kF (dF (dF (dF (dF nF)))))))))))) (ZCo (ZNn (n1:=h5.nx+1) (by':=72) (sz:=6) (k:=i) (n:=0) (l:=(L.take i).flatMap rowW) rfl hw (hE5.trans hEa) rfl rfl rfl rfl Und.h inferInstance rfl rfl (hOa0.ext (Ext.rsv _)) (hz1 _ h (hF5.ext hEa)) (by rw[ZAj (enc:=rowW) (k:=6) (fun _=>rfl),hti]) (ZDs _) (by omega) (by omega) hne (Nat.lt_succ_self _) (fun v12 h12 hO13 hE12 hne12 hn12 hw12=>?_)))
 have hU12:=Upd.mk' h12 (h5.nx+1) (.cells (rowW y) 44 false);have hO13':=hO13.other (.cells (rowW y) 44 false) hne12;have hE12':=hU12.ext hE12 hw (Nat.le_succ_of_le hn5);have hrow12:=hE12.row hrow;have hrow12':=hE12'.row hrow;rw[List.nil_append,Nat.zero_add] at hO13';refine ZAM (h1:=(h12.set (h5.nx+1) (.cells (rowW y) 44 false))) [0,1,2,3,4,5,6,7,8,9] (by kernel_rfl) rfl (by refine ZA3 (i:=13) rfl rfl rfl rfl rfl (fun _=>hA2 rfl rfl) rfl ?_;refine t_m 12 ?_;refine t_m 11 ?_;refine ZP3 (i:=9) (nk:=.sl _ _) rfl rfl rfl rfl rfl (fun _ _ hs=>N_bs hs Und.h Tsz.h Zr.h rfl rfl rfl rfl rfl) rfl ?_;refine t_r 8 ?_;refine t_i 7 ?_;refine t_m 6 ?_;refine t_m 5 ?_;exact ZAD rfl) rfl rfl (kF (kF (kF (dF (dF (dF (dF (dF nF)))))))) (ZCo (ZDB (by':=72) (sz:=6) (k:=1) (n:=i) (l:=rowW y) rfl hw hE12' rfl rfl rfl rfl Und.h inferInstance rfl rfl hO13' ((ZAB.lit (h0:=h) (n:=1) (sz:=6) hU12.at' rfl (Nat.le_succ_of_le hn5)).src (dd:=.slice 44) Und.h (by intro k;simp)) rfl rfl (by omega) (by omega) (fun v14 h14 hO15 hE14 hw14=>?_)))
 have hF15:ZAB h h14 (.slice aL L.length L.length) 44 6 (L.flatMap rowW) L.length:=hO15.at 1 rfl;refine ZAM (h1:=h14) [0,1,2,3,4,5,6,7,8,9,10,11,12,13] (by kernel_rfl) rfl (by refine ZA3 (i:=13) rfl rfl rfl rfl rfl (fun _=>hA2 rfl rfl) rfl ?_;refine t_m 12 ?_;refine t_m 11 ?_;exact ZAD rfl) rfl rfl (dF (dF (dF nF))) (ZCo (ZDB (by':=72) (sz:=6) (k:=L.length-i) (n:=i+1) (l:=(L.drop i).flatMap rowW) rfl hw hE14 rfl rfl rfl rfl Und.h inferInstance rfl rfl hO15 (hz2 _ h hF15) (by rw[ZAj (enc:=rowW) (k:=6) (fun _=>rfl),hdi]) (ZDs _) (by omega) (by omega) (fun v16 h16 hO17 hE16 hw16=>?_)));refine ZAM (h1:=h16) [0,1,2,3,4,5,6,7,8,9,10,11,12,13,14] (by kernel_rfl) rfl (ZAD rfl) rfl rfl nF (ZDr rfl rfl (ZBD rfl) ?_)
 refine ZAU (h1:=h16) (ZAD rfl) rfl ?_;refine zy ?_;refine⟨(k+1,v16),?_,rfl,hk',hE16,?_,?_,rfl,rfl,rfl,trivial⟩
 ·show l.length-(k+1)<l.length-k;omega
 ·simp only
  rw[hins];have e1:(L.take i++y::L.drop i).flatMap rowW=(L.take i).flatMap rowW++rowW y++(L.drop i).flatMap rowW:=by rw[List.flatMap_append,List.flatMap_cons,List.append_assoc]
  have e2:(L.take i++y::L.drop i).length=i+1+(L.length-i):=by rw[List.length_append,List.length_cons,hti,hdi];omega
  rw[e1,e2];exact hO17.sub (.cons_cons _ (List.nil_sublist _))
 ·intro e
  simp only at e;rw[hins] at e;simp at e
end Go.Dw
namespace Go.Dw
open Go Go.Dx Go.Proofs
set_option maxRecDepth 100000
def ZT0 (L:List WkR)(v:Value)(h':Heap):Prop:=∃a af,v=.tuple ⟨[.slice a (ZAi L).length (ZAi L).length,.slice af (ZBW L).length (ZBW L).length]⟩/\SrcK rowW 6 h' a (ZAi L)/\SrcK rowK 2 h' af (ZBW L)
end Go.Dw
