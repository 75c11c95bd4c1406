/- C5: workshops in memory; contracts: the parts of Check (chapter 04). -/
import Derived.Test.YtcjmpdpgfmjcgaaGreatDoorMG2
import Derived.Test.YtcjmpdpgfmjcgaaGreatDoorMG4
namespace Go.Dw
open Go Go.Dx Go.Proofs
set_option maxRecDepth 100000
structure Mach where
 name:List UInt8
 places:List Int
structure Reel where
 name:List UInt8
 machines:List Int
 ready:Int
 due:Int
 risk:Int
structure Task where
 first:Int
 days:Int
 machines:List Mach
 reels:List Reel
structure Reel.Fit (r:Reel):Prop where
 name:Len r.name
 ms:Len r.machines
 msI:∀n∈r.machines,I64 n
 ready:I64 r.ready
 due:I64 r.due
 risk:I64 r.risk
structure Mach.Fit (m:Mach):Prop where
 name:Len m.name
 pl:Len m.places
 plI:∀n∈m.places,I64 n
structure Task.Fit (t:Task):Prop where
 first:I64 t.first
 days:I64 t.days
 ms:Len t.machines
 rs:Len t.reels
 msF:∀m∈t.machines,m.Fit
 rsF:∀r∈t.reels,r.Fit
def MachAt (h:Heap)(row:List Value)(m:Mach):Prop:=∃a cap,row=[str m.name,.slice a m.places.length cap]/\IntsAt h a m.places
def ReelAt (h:Heap)(row:List Value)(r:Reel):Prop:=∃a cap,row=[str r.name,.slice a r.machines.length cap,i64 r.ready,i64 r.due,i64 r.risk]/\IntsAt h a r.machines
def TaskAt (h:Heap)(row:List Value)(t:Task):Prop:=∃am cm ar cr,row=[i64 t.first,i64 t.days,.slice am t.machines.length cm,.slice ar t.reels.length cr]/\RowsAt 2 MachAt h am t.machines/\RowsAt 5 ReelAt h ar t.reels
theorem MachAt.ext {h h':Heap}{row:List Value}{m:Mach}(a:MachAt h row m)(he:Ext h h'):MachAt h' row m:=by
 obtain⟨x,c,h1,h2⟩:=a;exact⟨x,c,h1,h2.ext he⟩
theorem ReelAt.ext {h h':Heap}{row:List Value}{m:Reel}(a:ReelAt h row m)(he:Ext h h'):ReelAt h' row m:=by
 obtain⟨x,c,h1,h2⟩:=a;exact⟨x,c,h1,h2.ext he⟩
theorem TaskAt.ext {h h':Heap}{row:List Value}{t:Task}(a:TaskAt h row t)(he:Ext h h'):TaskAt h' row t:=by
 obtain⟨a,b,c,d,h1,h2,h3⟩:=a
 exact⟨a,b,c,d,h1,RowsAt.ext (R:=MachAt) (fun x y=>MachAt.ext x y) h2 he,RowsAt.ext (R:=ReelAt) (fun x y=>ReelAt.ext x y) h3 he⟩
def nameErr (s:List UInt8)(before:List (List UInt8)):Int:=if nameR s=false then 6 else if s∈before then 5 else 0
def machErr (t:Task)(m:Mach):Int:=if (m.places.length:Int)≠t.days then 2 else if (m.places.any fun n=>decide (n<0\/20<n))=true then 7 else 0
def desc:List Int->Bool
 | a::b::l=>decide (b<=a) || desc (b::l)
 | _=>false
def reelErr (t:Task)(r:Reel):Int :=
 if r.machines=[] then 3 else if (r.machines.any fun n=>decide (n<0\/(t.machines.length:Int)-1<n))=true then 4 else if desc r.machines=true then 2
 else if (r.ready<t.first\/t.first+t.days-1<r.ready)\/(r.due<r.ready\/t.first+t.days-1<r.due)\/(r.risk<1\/1000000<r.risk) then 7 else 0
def goM (t:Task):Nat->List (List UInt8)->List Mach->Option (Int×Int×Int)
 | _,_,[]=>none
 | i,before,m::ms=>if nameErr m.name before≠0 then some (2,i,nameErr m.name before) else if machErr t m≠0 then some (2,i,machErr t m) else goM t (i+1) (before++[m.name]) ms
def goR (t:Task):Nat->List (List UInt8)->List Reel->Option (Int×Int×Int)
 | _,_,[]=>none
 | i,before,r::rs=>if nameErr r.name before≠0 then some (3,i,nameErr r.name before) else if reelErr t r≠0 then some (3,i,reelErr t r) else goR t (i+1) (before++[r.name]) rs
def checkS (t:Task):Int×Int×Int :=
 if (t.first<0\/80000<t.first)\/(t.days<1\/60<t.days)\/80000<t.first+t.days-1 then (1,0,7)
 else if (t.machines.length<1\/4<t.machines.length)\/24<t.reels.length then (1,0,3)
 else match goM t 0 [] t.machines with
  | some e=>e
  | none=>match goR t 0 [] t.reels with
   | some e=>e
   | none=>(0,0,0)
def tup3 (x:Int×Int×Int):Value:=.tuple ⟨[i64 x.1,i64 x.2.1,i64 x.2.2]⟩
theorem refname_sv {a:Option Addr}{cap:Nat}{l:List (List UInt8)}{s:List UInt8}{h:Heap}(hl:StrsAt h a l)(hn:Len s)(hlen:Len l):Sv Tryz.prog 52 [str s,.slice a l.length cap] h (RetP fun v h'=>v=i64 (nameErr s l)/\h'=h):=by
 refine Sv_enter Tryz.func52 rfl (by rw[Tryz.ntmps52];rfl) ?_;show Wc Tryz.prog ⟨52,21,none⟩ _ _ _ _ _
 refine zz ?_
 refine Wo_callP rfl rfl rfl rfl rfl Bod.h rfl rfl (refName_sv s h hn) (fun h1=>?_) (fun h1=>?_)
 rotate_left
 ·refine zz ?_
  exact Wc_ret (Lv_ret rfl ⟨by simp[nameErr,h1];rfl,rfl⟩)
 refine zz ?_
 refine Wc_loop (fun (k:Nat) m ds h'=>ds=[]/\h'=h/\k<=l.length/\(∀j (hj:j<l.length),j<k->l[j]≠s)/\AllK m [(0,str s),(1,.slice a l.length cap),(5,i64 k)]) (fun k=>l.length-k) 0 ?_ ?_
 ·exact⟨rfl,rfl,Nat.zero_le _,(fun _ _ hj=>by omega),rfl,rfl,rfl,trivial⟩
 rintro k m ds h' ⟨rfl,rfl,hk,hno,hall⟩
 refine Wc.le ?_ (Le.kn hall)
 refine zz ?_
 refine Wo_dec rfl rfl rfl rfl (A_lss rfl rfl) (fun h3=>?_) (fun h3=>?_)
 ·have hk':k<l.length:=by simpa using h3
  obtain⟨b,o,oa,rfl,hc⟩:=hl k hk'
  refine zz ?_
  refine Wo_do rfl rfl rfl rfl (A_ix Und.h Tsz.h rfl rfl) ?_
  refine zz ?_
  refine Wo_dec rfl rfl rfl rfl (A_eqlStr rfl rfl) (fun h4=>?_) (fun h4=>?_)
  ·refine zz ?_
   refine Wc_ret (Lv_ret rfl ⟨?_,rfl⟩)
   have:s∈l:=by rw[<-h4];exact List.getElem_mem hk'
   simp[nameErr,h1,this];rfl
  ·refine zz ?_
   refine⟨k+1,?_,rfl,rfl,hk',?_,rfl,rfl,rfl,trivial⟩
   ·show l.length-(k+1)<l.length-k;omega
   ·intro j hj hlt
    rcases Nat.lt_or_ge j k with g|g
    ·exact hno j hj g
    ·have:j=k:=by omega
     subst this;exact h4
 ·refine zz ?_
  refine Wc_ret (Lv_ret rfl ⟨?_,rfl⟩)
  have:s ∉ l:=fun hm=>by
   obtain⟨j,hj,e⟩:=List.getElem_of_mem hm
   exact hno j hj (by omega) e
  simp[nameErr,h1,this];rfl
theorem refmachine_sv {tc mc:List Value}{t:Task}{m:Mach}{h:Heap}(ht:TaskAt h tc t)(hm:MachAt h mc m)(hf:m.Fit):Sv Tryz.prog 53 [.agg ⟨tc⟩,.agg ⟨mc⟩] h (RetP fun v h'=>v=i64 (machErr t m)/\Ext h h'):=by
 obtain⟨am,cm,ar,cr,rfl,h1,h2⟩:=ht
 obtain⟨a,cap,rfl,hI⟩:=hm
 refine Sv_wf fun hw=>?_
 refine Sv_enter Tryz.func53 rfl (by rw[Tryz.ntmps53];rfl) ?_;show Wc Tryz.prog ⟨53,26,none⟩ _ _ _ _ _
 refine zz ?_
 refine Wo_box rfl rfl rfl fun h1 hE1 hW1 hg1 hn1=>?_
 refine Wo_box rfl rfl rfl fun h2 hE2 hW2 hg2 hn2=>?_
 replace hg1:=hE2.get hg1
 have hE:=hE1.trans hE2
 replace hI:=hI.ext hE
 generalize h.nx=b1 at *
 generalize h1.nx=b2 at *
 refine zz ?_
 refine Wo_dec rfl rfl rfl rfl (A_neq rfl rfl) (fun h3=>?_) (fun h3=>?_)
 ·refine zz ?_
  exact Wc_ret (Lv_ret rfl ⟨by simp[machErr,h3];rfl,hE⟩)
 have h3':(m.places.length:Int)=t.days:=Classical.not_not.1 h3
 refine zz ?_
 refine Wc_loop (fun (k:Nat) mm ds h'=>ds=[]/\h'=h2/\k<=m.places.length/\(∀j (hj:j<m.places.length),j<k->¬(m.places[j]<0\/20<m.places[j]))/\AllK mm [(3,.pointer (some ⟨b2,0,none⟩)),(5,i64 k)]) (fun k=>m.places.length-k) 0 ?_ ?_
 ·exact⟨rfl,rfl,Nat.zero_le _,(fun _ _ hj=>by omega),rfl,rfl,trivial⟩
 rintro k mm ds h' ⟨rfl,rfl,hk,hno,hall⟩
 have hlen:=hf.pl
 refine Wc.le ?_ (Le.kn hall)
 refine zz ?_
 refine Wo_dec rfl rfl rfl rfl (A_lss rfl rfl) (fun h4=>?_) (fun h4=>?_)
 ·have hk':k<m.places.length:=by simpa using h4
  obtain⟨b,o,oa,rfl,hc⟩:=hI k hk'
  refine zz ?_
  refine Wo_do rfl rfl rfl rfl (A_ix Und.h Tsz.h rfl rfl) ?_
  refine zz ?_
  refine Wo_callP rfl rfl rfl rfl rfl Bod.h rfl rfl (in_sv _ _ _ _) (fun h5=>?_) (fun h5=>?_)
  ·refine zz ?_
   refine⟨k+1,?_,rfl,rfl,hk',?_,rfl,rfl,trivial⟩
   ·show m.places.length-(k+1)<m.places.length-k;omega
   ·intro j hj hlt
    rcases Nat.lt_or_ge j k with g|g
    ·exact hno j hj g
    ·have:j=k:=by omega
     subst this
     have:=of_decide_eq_true h5
     omega
  ·refine zz ?_
   refine Wc_ret (Lv_ret rfl ⟨?_,hE⟩)
   have hany:(m.places.any fun n=>decide (n<0\/20<n))=true:=by
    rw[List.any_eq_true]
    refine⟨_,List.getElem_mem hk',decide_eq_true ?_⟩
    have:=of_decide_eq_false h5
    omega
   rw[show machErr t m=7 by unfold machErr;rw[if_neg h3,if_pos hany]];rfl
 ·refine zz ?_
  refine Wc_ret (Lv_ret rfl ⟨?_,hE⟩)
  have hany:(m.places.any fun n=>decide (n<0\/20<n))=false:=by
   rw[List.any_eq_false]
   intro x hx
   obtain⟨j,hj,rfl⟩:=List.getElem_of_mem hx
   have:=hno j hj (by omega)
   simpa using this
  rw[show machErr t m=0 by unfold machErr;rw[if_neg h3,if_neg (by rw[hany];simp)]];rfl
end Go.Dw
/- C6: contracts: the error of a reel (telecineref04.reel, rescue.odd). -/
namespace Go.Dw
open Go Go.Dx Go.Proofs
set_option maxRecDepth 100000
theorem desc_iff (l:List Int):desc l=true ↔ ∃i,∃(h:i+1<l.length),l[i+1]<=l[i]:=by
 induction l with
 | nil=>simp[desc]
 | cons a l ih =>
  cases l with
  | nil=>simp[desc]
  | cons b l =>
   unfold desc
   simp only[Bool.or_eq_true,decide_eq_true_eq,ih]
   constructor
   ·rintro (h|⟨i,h1,h2⟩)
    ·exact⟨0,by simp,h⟩
    ·exact⟨i+1,by simpa using h1,by simpa using h2⟩
   ·rintro⟨i,h1,h2⟩
    cases i with
    | zero=>exact .inl h2
    | succ i=>exact .inr ⟨i,by simpa using h1,by simpa using h2⟩
def reelAll (t:Task)(r:Reel)(before:List (List UInt8)):Int:=if nameErr r.name before≠0 then nameErr r.name before else reelErr t r
theorem refreel_sv {tc rc:List Value}{t:Task}{r:Reel}{a:Option Addr}{cap:Nat}{l:List (List UInt8)}{h:Heap}(ht:TaskAt h tc t)(hm:ReelAt h rc r)(hf:r.Fit)(hl:StrsAt h a l)(hlen:Len l)(hf1:0<=t.first/\t.first<=80000)(hd1:1<=t.days/\t.days<=60)(hms:t.machines.length<=4) :
  Sv Tryz.prog 54 [.agg ⟨tc⟩,.agg ⟨rc⟩,.slice a l.length cap] h (RetP fun v h'=>v=i64 (reelAll t r l)/\Ext h h'):=by
 obtain⟨am,cm,ar,cr,rfl,_,_⟩:=ht
 obtain⟨a',cap',rfl,hI⟩:=hm
 have hrl:=hf.ms
 have hrd:=hf.ready
 have hdu:=hf.due
 have hri:=hf.risk
 refine Sv_wf fun hw=>?_
 refine Sv_enter Tryz.func54 rfl (by rw[Tryz.ntmps54];rfl) ?_;show Wc Tryz.prog ⟨54,87,none⟩ _ _ _ _ _
 refine zz ?_
 refine Wo_box rfl rfl rfl fun h1 hE1 hW1 hg1 hn1=>?_
 refine Wo_box rfl rfl rfl fun h2 hE2 hW2 hg2 hn2=>?_
 replace hg1:=hE2.get hg1
 have hE:=hE1.trans hE2
 replace hI:=hI.ext hE
 replace hl:=hl.ext hE
 generalize h.nx=b1 at *
 generalize h1.nx=b2 at *
 refine zz ?_
 refine Wo_callV rfl rfl rfl rfl rfl Bod.h rfl rfl (refname_sv hl hf.name hlen) ?_
 refine zz ?_
 refine Wo_dec rfl rfl rfl rfl (A_neq rfl rfl) (fun h3=>?_) (fun h3=>?_)
 ·refine zz ?_
  exact Wc_ret (Lv_ret rfl ⟨by rw[reelAll,if_pos h3];rfl,hE⟩)
 have hA:reelAll t r l=reelErr t r:=if_neg h3
 refine zz ?_
 refine Wo_dec rfl rfl rfl rfl (A_eql rfl rfl) (fun h4=>?_) (fun h4=>?_)
 ·refine zz ?_
  have hm0:r.machines=[]:=List.length_eq_zero_iff.1 (by omega)
  exact Wc_ret (Lv_ret rfl ⟨by rw[hA,reelErr,if_pos hm0];rfl,hE⟩)
 have hm0:¬r.machines=[]:=fun e=>h4 (by rw[e];rfl)
 refine zz ?_
 refine Wc_loop (fun (k:Nat) mm ds h'=>ds=[]/\h'=h2/\k<=r.machines.length/\(∀j (hj:j<r.machines.length),j<k->¬(r.machines[j]<0\/(t.machines.length:Int)-1<r.machines[j]))/\AllK mm [(3,.pointer (some ⟨b1,0,none⟩)),(4,.pointer (some ⟨b2,0,none⟩)),(8,i64 k)]) (fun k=>r.machines.length-k) 0 ?_ ?_
 ·exact⟨rfl,rfl,Nat.zero_le _,(fun _ _ hj=>by omega),rfl,rfl,rfl,trivial⟩
 rintro k mm ds h' ⟨rfl,rfl,hk,hno,hall⟩
 refine Wc.le ?_ (Le.kn hall)
 refine zz ?_
 refine Wo_dec rfl rfl rfl rfl (A_lss rfl rfl) (fun h5=>?_) (fun h5=>?_)
 ·have hk':k<r.machines.length:=by simpa using h5
  obtain⟨b,o,oa,rfl,hc⟩:=hI k hk'
  refine zz ?_
  refine Wc_draw hmix [0,1,0,7,15,0,32,96,224,511,1023] [0,1,2,3,4,5,6,7,8] (some 9) [([10],none)] (by kernel_rfl) (by kernel_rfl) ?_
  refine z_f ?_;refine z_l ?_;refine z_m ?_;refine z_i ?_;refine z_l ?_;refine z_f ?_;refine z_l ?_;refine z_c ?_;refine z_u ?_
  refine Wp_eff [0,1,2,3,4,5,6,7,8] (by kernel_rfl) rfl (Stl_nil rfl) rfl nb rfl (W1_callP rfl rfl rfl rfl rfl Bod.h (in_sv _ _ _ _) (fun h6=>?_) (fun h6=>?_))
  ·refine z_n ?_
   refine Wp_end (Stl_nil rfl) nb' ?_
   refine zz ?_
   refine⟨k+1,?_,rfl,rfl,hk',?_,rfl,rfl,rfl,trivial⟩
   ·show r.machines.length-(k+1)<r.machines.length-k;omega
   ·intro j hj hlt
    rcases Nat.lt_or_ge j k with g|g
    ·exact hno j hj g
    ·have:j=k:=by omega
     subst this
     have:=of_decide_eq_true h6
     omega
  ·refine z_n ?_
   refine Wp_end (Stl_nil rfl) nb' ?_
   refine zz ?_
   refine Wc_ret (Lv_ret rfl ⟨?_,hE⟩)
   have hany:(r.machines.any fun n=>decide (n<0\/(t.machines.length:Int)-1<n))=true:=by
    rw[List.any_eq_true]
    refine⟨_,List.getElem_mem hk',decide_eq_true ?_⟩
    have:=of_decide_eq_false h6
    omega
   rw[hA,reelErr,if_neg hm0,if_pos hany];rfl
 have hany:¬(r.machines.any fun n=>decide (n<0\/(t.machines.length:Int)-1<n))=true:=by
  rw[Bool.not_eq_true,List.any_eq_false]
  intro x hx
  obtain⟨j,hj,rfl⟩:=List.getElem_of_mem hx
  have:=hno j hj (by omega)
  simpa using this
 clear hno hall
 refine zz ?_
 refine Wc_loop (fun (k:Nat) mm ds h2=>ds=[]/\h2=h'/\1<=k/\(∀j (hj:j+1<r.machines.length),j+1<k->¬r.machines[j+1]<=r.machines[j])/\AllK mm [(3,.pointer (some ⟨b1,0,none⟩)),(4,.pointer (some ⟨b2,0,none⟩)),(9,i64 k)]) (fun k=>r.machines.length-k) 1 ?_ ?_
 ·exact⟨rfl,rfl,Nat.le_refl _,(fun _ _ hj=>by omega),rfl,rfl,rfl,trivial⟩
 rintro k mm ds h2 ⟨rfl,rfl,hk,hno,hall⟩
 refine Wc.le ?_ (Le.kn hall)
 refine zz ?_
 refine Wo_dec rfl rfl rfl rfl (A_lss rfl rfl) (fun h6=>?_) (fun h6=>?_)
 ·have hk':k<r.machines.length:=by simpa using h6
  obtain⟨b,o,oa,rfl,hc⟩:=hI k hk'
  obtain⟨b',o',oa',e,hc'⟩:=hI (k-1) (by omega)
  cases e
  refine zz ?_
  refine Wc_draw hmix [0,1,0,7,15,0,32,0,128,480,992,2047] [0,1,2,3,4,5,6,7,8,9,10,11] none [] (by kernel_rfl) (by kernel_rfl) ?_
  refine z_f ?_;refine z_l ?_;refine z_m ?_;refine z_i ?_;refine z_l ?_;refine z_f ?_;refine z_l ?_;refine z_m ?_;refine z_u ?_;refine Wp_pure rfl rfl rfl rfl rfl (fun _=>A_indexAddr (k:=k-1) Und.h Tsz.h rfl rfl (by omega) (by omega)) ?_;refine z_l ?_
  refine Wp_dec rfl rfl rfl rfl rfl (fun _=>A_leq rfl rfl) (fun h7=>?_) (fun h7=>?_)
  ·refine Wp_end (Stl_nil rfl) nb' ?_
   refine zz ?_
   refine Wc_ret (Lv_ret rfl ⟨?_,hE⟩)
   have hd:desc r.machines=true:=(desc_iff _).2 ⟨k-1,by omega,by
    have:k-1+1=k:=by omega
    simp only[this];exact h7⟩
   rw[hA,reelErr,if_neg hm0,if_neg hany,if_pos hd];rfl
  ·refine Wp_end (Stl_nil rfl) nb' ?_
   refine zz ?_
   refine⟨k+1,?_,rfl,rfl,by omega,?_,rfl,rfl,rfl,trivial⟩
   ·show r.machines.length-(k+1)<r.machines.length-k;omega
   ·intro j hj hlt
    rcases Nat.lt_or_ge (j+1) k with g|g
    ·exact hno j hj g
    ·have:k-1=j:=by omega
     subst this
     have:k-1+1=k:=by omega
     simp only[this];exact h7
 have hd:¬desc r.machines=true:=fun hd=>by
  obtain⟨j,hj,hle⟩:=(desc_iff _).1 hd
  exact hno j hj (by omega) hle
 have hB:reelAll t r l=if (r.ready<t.first\/t.first+t.days-1<r.ready)\/(r.due<r.ready\/t.first+t.days-1<r.due)\/(r.risk<1\/1000000<r.risk) then 7 else 0:=by
  rw[hA,reelErr,if_neg hm0,if_neg hany,if_neg hd]
 refine zz ?_
 refine Wo_callP rfl rfl rfl rfl rfl Bod.h rfl rfl (in_sv _ _ _ _) (fun h7=>?_) (fun h7=>?_)
 rotate_left
 ·refine zz ?_
  exact Wc_ret (Lv_ret rfl ⟨by rw[hB,if_pos (by have:=of_decide_eq_false h7;omega)];rfl,hE⟩)
 refine zz ?_
 refine Wo_callP rfl rfl rfl rfl rfl Bod.h rfl rfl (in_sv _ _ _ _) (fun h8=>?_) (fun h8=>?_)
 rotate_left
 ·refine zz ?_
  exact Wc_ret (Lv_ret rfl ⟨by rw[hB,if_pos (by have:=of_decide_eq_false h8;omega)];rfl,hE⟩)
 refine zz ?_
 refine Wo_callP rfl rfl rfl rfl rfl Bod.h rfl rfl (in_sv _ _ _ _) (fun h9=>?_) (fun h9=>?_)
 rotate_left
 ·refine zz ?_
  exact Wc_ret (Lv_ret rfl ⟨by rw[hB,if_pos (by have:=of_decide_eq_false h9;omega)];rfl,hE⟩)
 refine zz ?_
 exact Wc_ret (Lv_ret rfl ⟨by rw[hB,if_neg (by have:=of_decide_eq_true h7;have:=of_decide_eq_true h8;have:=of_decide_eq_true h9;omega)];rfl,hE⟩)
end Go.Dw
/- C7: contracts: rescue.mixed, rescue.odd. -/
namespace Go.Dw
open Go Go.Dx Go.Proofs
set_option maxRecDepth 100000
def mixedB (many:Int):Int->List Int->Bool
 | _,[]=>false
 | before,n::l=>if n<before+1\/many-1<n then true else mixedB many n l
theorem mixed_sv {a:Option Addr}{cap:Nat}{l:List Int}{many:Int}{h:Heap}(hl:IntsAt h a l)(hm:0<=many)(hm':many<9223372036854775808)(hlen:Len l) :
  Sv Tryz.prog 55 [.slice a l.length cap,i64 many] h (RetP fun v h'=>v=.bool (mixedB many (-1) l)/\h'=h):=by
 refine Sv_enter Tryz.func55 rfl (by rw[Tryz.ntmps55];rfl) ?_;show Wc Tryz.prog ⟨55,22,none⟩ _ _ _ _ _
 refine zz ?_
 refine Wc_loop (fun (s:Nat×Int) m ds h'=>ds=[]/\h'=h/\s.1<=l.length/\mixedB many (-1) l=mixedB many s.2 (l.drop s.1)/\(-1<=s.2/\s.2<9223372036854775807)/\AllK m [(1,i64 many),(5,i64 s.2),(8,.slice a l.length cap),(9,i64 l.length),(10,i64 s.1)])
  (fun s=>l.length-s.1) (0,-1) ?_ ?_
 ·exact⟨rfl,rfl,Nat.zero_le _,rfl,by decide,rfl,rfl,rfl,rfl,rfl,trivial⟩
 rintro⟨k,before⟩ m ds h' ⟨rfl,rfl,hk,hrec,hbf,hall⟩
 simp only at hk hrec hbf hall
 refine Wc.le ?_ (Le.kn hall)
 refine zz ?_
 refine Wo_dec rfl rfl rfl rfl (A_lss rfl rfl) (fun h1=>?_) (fun h1=>?_)
 ·have hk':k<l.length:=by simpa using h1
  obtain⟨b,o,oa,rfl,hc⟩:=hl k hk'
  have hdr:l.drop k=l[k]::l.drop (k+1):=List.drop_eq_getElem_cons hk'
  rw[hdr] at hrec
  refine zz ?_
  refine Wo_do rfl rfl rfl rfl (A_ix Und.h Tsz.h rfl rfl) ?_
  refine zz ?_
  refine Wo_callP rfl rfl rfl rfl rfl Bod.h rfl rfl (out_sv _ _ _ _) (fun hp=>?_) (fun hp=>?_)
  ·refine zz ?_
   refine Wc_ret (Lv_ret rfl ⟨?_,rfl⟩)
   rw[hrec];simp only[mixedB];rw[if_pos (of_decide_eq_true hp)];rfl
  ·have hp':=of_decide_eq_false hp
   refine zz ?_
   refine⟨(k+1,l[k]),?_,rfl,rfl,hk',?_,?_,rfl,rfl,rfl,rfl,rfl,trivial⟩
   ·simp only;omega
   ·rw[hrec];simp only[mixedB];rw[if_neg hp']
   ·simp only;omega
 ·have hk2:k=l.length:=by omega
  subst hk2
  refine zz ?_
  refine Wc_ret (Lv_ret rfl ⟨?_,rfl⟩)
  rw[hrec,List.drop_length];rfl
theorem mixed_desc {many:Int}:∀{l:List Int}{before:Int},(∀n∈l,¬(n<0\/many-1<n))->mixedB many before l=desc (before::l):=by
 intro l
 induction l with
 | nil=>intro b _;rfl
 | cons n l ih =>
  intro b h
  have hn:=h n List.mem_cons_self
  have:=ih (before:=n) fun x hx=>h x (List.mem_cons_of_mem _ hx)
  unfold mixedB desc
  rw[this]
  by_cases hb:n<=b
  ·rw[if_pos (by omega),decide_eq_true hb];rfl
  ·rw[if_neg (by omega),decide_eq_false hb];rfl
theorem mixed_desc0 {many:Int}{l:List Int}(h:∀n∈l,¬(n<0\/many-1<n)):mixedB many (-1) l=desc l:=by
 rw[mixed_desc h]
 cases l with
 | nil=>rfl
 | cons n l =>
  have:=h n List.mem_cons_self
  show (decide (n <= -1) || desc (n::l))=desc (n::l)
  rw[decide_eq_false (by omega)]
  rfl
theorem odd1_sv {tc:List Value}{n:Int}{b:Nat}{am ar:Option Addr}{f d:Int}{nm cm nr cr:Nat}{h:Heap}(hg:h.get b=some (.cells [i64 f,i64 d,.slice am nm cm,.slice ar nr cr] 25 false))(hn:nm<=4) :
  Sv Tryz.prog 94 [i64 n,.pointer (some ⟨b,0,none⟩)] h (RetP fun v h'=>v=.bool (decide (n<0\/(nm:Int)-1<n))/\h'=h):=by
 refine Sv_enter Tryz.func94 rfl (by rw[Tryz.ntmps94];rfl) ?_;show Wc Tryz.prog ⟨94,10,none⟩ _ _ _ _ _
 refine zz ?_
 refine Wo_callP rfl rfl rfl rfl rfl Bod.h rfl rfl (out_sv _ _ _ _) (fun h1=>?_) (fun h1=>?_)
 ·refine zz ?_
  exact Wc_ret (Lv_ret rfl ⟨by rw[h1];rfl,rfl⟩)
 ·refine zz ?_
  exact Wc_ret (Lv_ret rfl ⟨by rw[h1];rfl,rfl⟩)
theorem odd_sv {tc rc:List Value}{t:Task}{r:Reel}{h:Heap}(ht:TaskAt h tc t)(hm:ReelAt h rc r)(hf:r.Fit)(hf1:0<=t.first/\t.first<=80000)(hd1:1<=t.days/\t.days<=60)(hms:t.machines.length<=4) :
  Sv Tryz.prog 50 [.agg ⟨tc⟩,.agg ⟨rc⟩] h (RetP fun v h'=>v=i64 (reelErr t r)/\Ext h h'):=by
 obtain⟨am,cm,ar,cr,rfl,_,_⟩:=ht
 obtain⟨a',cap',rfl,hI⟩:=hm
 have hrl:=hf.ms
 have hrd:=hf.ready
 have hdu:=hf.due
 have hri:=hf.risk
 refine Sv_wf fun hw=>?_
 refine Sv_enter Tryz.func50 rfl (by rw[Tryz.ntmps50];rfl) ?_;show Wc Tryz.prog ⟨50,50,none⟩ _ _ _ _ _
 refine zz ?_
 refine Wo_box rfl rfl rfl fun h1 hE1 hW1 hg1 hn1=>?_
 refine Wo_box rfl rfl rfl fun h2 hE2 hW2 hg2 hn2=>?_
 replace hg1:=hE2.get hg1
 have hE:=hE1.trans hE2
 replace hI:=hI.ext hE
 generalize h.nx=b1 at *
 generalize h1.nx=b2 at *
 refine zz ?_
 refine Wo_dec rfl rfl rfl rfl (A_eql rfl rfl) (fun h3=>?_) (fun h3=>?_)
 ·refine zz ?_
  have hm0:r.machines=[]:=List.length_eq_zero_iff.1 (by omega)
  exact Wc_ret (Lv_ret rfl ⟨by rw[reelErr,if_pos hm0];rfl,hE⟩)
 have hm0:¬r.machines=[]:=fun e=>h3 (by rw[e];rfl)
 refine zz ?_
 refine Wo_callB rfl rfl rfl rfl rfl Bod.h rfl rfl (containsFuncI_sv (first:=[]) (capv:=[.pointer (some ⟨b1,0,none⟩)]) (p:=fun n=>decide (n<0\/(t.machines.length:Int)-1<n)) hI Bod.h (fun h3 hE3 x _=>(odd1_sv (tc:=[]) (hE3.get hg1) hms).grows) hrl) (fun h4 h5 hE5=>?_) (fun h4 h5 hE5=>?_)
 ·refine zz ?_
  exact Wc_ret (Lv_ret rfl ⟨by rw[reelErr,if_neg hm0,if_pos h4];rfl,hE.trans hE5⟩)
 replace hE:=hE.trans hE5
 replace hg1:=hE5.get hg1
 replace hg2:=hE5.get hg2
 replace hI:=hI.ext hE5
 have hno:∀n∈r.machines,¬(n<0\/(t.machines.length:Int)-1<n):=by
  rw[List.any_eq_false] at h4
  intro n hn
  have:=h4 n hn
  simpa using this
 have h4':¬(r.machines.any fun n=>decide (n<0\/(t.machines.length:Int)-1<n))=true:=by rw[h4];simp
 refine zz ?_
 refine Wo_callP rfl rfl rfl rfl rfl Bod.h rfl rfl (mixed_sv hI (by omega) (by omega) hrl) (fun h6=>?_) (fun h6=>?_)
 ·refine zz ?_
  rw[mixed_desc0 hno] at h6
  exact Wc_ret (Lv_ret rfl ⟨by rw[reelErr,if_neg hm0,if_neg h4',if_pos h6];rfl,hE⟩)
 rw[mixed_desc0 hno] at h6
 have hB:reelErr t r=if (r.ready<t.first\/t.first+t.days-1<r.ready)\/(r.due<r.ready\/t.first+t.days-1<r.due)\/(r.risk<1\/1000000<r.risk) then 7 else 0:=by
  rw[reelErr,if_neg hm0,if_neg h4',if_neg (by rw[h6];simp)]
 refine zz ?_
 refine Wo_callP rfl rfl rfl rfl rfl Bod.h rfl rfl (out_sv _ _ _ _) (fun h7=>?_) (fun h7=>?_)
 ·refine zz ?_
  exact Wc_ret (Lv_ret rfl ⟨by rw[hB,if_pos (by have:=of_decide_eq_true h7;omega)];rfl,hE⟩)
 refine zz ?_
 refine Wo_callP rfl rfl rfl rfl rfl Bod.h rfl rfl (out_sv _ _ _ _) (fun h8=>?_) (fun h8=>?_)
 ·refine zz ?_
  exact Wc_ret (Lv_ret rfl ⟨by rw[hB,if_pos (by have:=of_decide_eq_false h7;have:=of_decide_eq_true h8;omega)];rfl,hE⟩)
 refine zz ?_
 refine Wo_callP rfl rfl rfl rfl rfl Bod.h rfl rfl (out_sv _ _ _ _) (fun h9=>?_) (fun h9=>?_)
 ·refine zz ?_
  exact Wc_ret (Lv_ret rfl ⟨by rw[hB,if_pos (by have:=of_decide_eq_true h9;omega)];rfl,hE⟩)
 refine zz ?_
 exact Wc_ret (Lv_ret rfl ⟨by rw[hB,if_neg (by have:=of_decide_eq_false h7;have:=of_decide_eq_false h8;have:=of_decide_eq_false h9;omega)];rfl,hE⟩)
end Go.Dw
/- C8: the contract of rescue.Check. -/
namespace Go.Dw
open Go Go.Dx Go.Proofs
set_option maxRecDepth 100000
theorem ba_beq (a b:List UInt8):((⟨⟨a⟩⟩:ByteArray) == ⟨⟨b⟩⟩)=decide (a=b):=by
 have:((⟨⟨a⟩⟩:ByteArray) == ⟨⟨b⟩⟩)=((⟨a⟩:Array UInt8) == ⟨b⟩):=rfl
 rw[this,Bool.eq_iff_iff];simp
noncomputable def strK:KeyK Tryz.prog 9 (List UInt8) where
 enc:=str
 ks:=.basic .string
 hks:=by kernel_rfl
 flat:=fun _=>rfl
 ok:=fun _=>rfl
 eq:=fun a b=>by
  show Instr.sameNow .string (str a) (str b)=_
  simp[Instr.sameNow,ba_beq]
 same:=fun a=>by simp[Instr.sameBits,ba_beq]
structure CkI (h0 h:Heap)(b1 bm:Nat)(tc:List Value)(before:List (List UInt8)):Prop where
 ext:Ext h0 h
 g1:h.get b1=some (.cells tc 25 false)
 mp:∃l,MapAt strK h bm l/\∀s,lkp s l=if s∈before then some (.bool true) else none
 lt:h0.nx<=bm
theorem CkI.grow {h0 h h':Heap}{b1 bm:Nat}{tc:List Value}{before:List (List UInt8)}(c:CkI h0 h b1 bm tc before)(he:Ext h h'):CkI h0 h' b1 bm tc before:=by
 obtain⟨l,m1,m2⟩:=c.mp
 exact⟨c.ext.trans he,he.get c.g1,⟨l,m1.ext _ he,m2⟩,c.lt⟩
theorem CkI.upd {h0 h h':Heap}{b1 bm x:Nat}{tc:List Value}{before:List (List UInt8)}{o:AO}(c:CkI h0 h b1 bm tc before)(u:Upd h x o h')(hw:WF h0)(hx:h0.nx<=x)(h1:b1≠x)(h2:bm≠x):CkI h0 h' b1 bm tc before:=by
 obtain⟨l,m1,m2⟩:=c.mp
 exact⟨u.ext c.ext hw hx,u.get h1 c.g1,⟨l,m1.get _ (u.other _ h2),m2⟩,c.lt⟩
theorem setMem {before:List (List UInt8)}{l:List (List UInt8×Value)}{s:List UInt8}(h:∀x,lkp x l=if x∈before then some (.bool true) else none)(x:List UInt8):lkp x (setK s (.bool true) l)=if x∈before++[s] then some (.bool true) else none:=by
 rw[lkp_setK,h x]
 by_cases hx:x=s
 ·simp[hx]
 ·simp[hx]
theorem rescueCheck_sv {tc:List Value}{t:Task}{h:Heap}(ht:TaskAt h tc t)(hf:t.Fit):Sv Tryz.prog 19 [.agg ⟨tc⟩] h (RetP fun v h'=>v=tup3 (checkS t)/\Ext h h'):=by
 obtain⟨am,cm,ar,cr,rfl,hM,hR⟩:=ht
 have hf1:=hf.first
 have hd1:=hf.days
 have hm1:=hf.ms
 have hr1:=hf.rs
 refine Sv_wf fun hw=>?_
 refine Sv_enter Tryz.func19 rfl (by rw[Tryz.ntmps19];rfl) ?_;show Wc Tryz.prog ⟨19,103,none⟩ _ _ _ _ _
 refine zz ?_
 refine Wo_box rfl rfl rfl fun h1 hE1 hW1 hg1 hn1=>?_
 generalize hb1:h.nx=b1 at *
 refine zz ?_
 refine Wo_callP rfl rfl rfl rfl rfl Bod.h rfl rfl (out_sv _ _ _ _) (fun h2=>?_) (fun h2=>?_)
 ·refine zz ?_
  refine Wc_ret (Lv_ret rfl ⟨?_,hE1⟩)
  rw[checkS,if_pos (by have:=of_decide_eq_true h2;omega)];rfl
 have h2':=of_decide_eq_false h2
 refine zz ?_
 refine Wo_callP rfl rfl rfl rfl rfl Bod.h rfl rfl (out_sv _ _ _ _) (fun h3=>?_) (fun h3=>?_)
 ·refine zz ?_
  refine Wc_ret (Lv_ret rfl ⟨?_,hE1⟩)
  rw[checkS,if_pos (by have:=of_decide_eq_true h3;omega)];rfl
 have h3':=of_decide_eq_false h3
 have hC1:¬((t.first<0\/80000<t.first)\/(t.days<1\/60<t.days)\/80000<t.first+t.days-1):=by omega
 refine zz ?_
 refine Wo_callP rfl rfl rfl rfl rfl Bod.h rfl rfl (out_sv _ _ _ _) (fun h4=>?_) (fun h4=>?_)
 ·refine zz ?_
  refine Wc_ret (Lv_ret rfl ⟨?_,hE1⟩)
  rw[checkS,if_neg hC1,if_pos (by have:=of_decide_eq_true h4;omega)];rfl
 have h4':=of_decide_eq_false h4
 refine zz ?_
 refine Wo_dec rfl rfl rfl rfl (A_gtr rfl rfl) (fun h5=>?_) (fun h5=>?_)
 ·refine zz ?_
  refine Wc_ret (Lv_ret rfl ⟨?_,hE1⟩)
  rw[checkS,if_neg hC1,if_pos (by omega)];rfl
 have hC2:¬((t.machines.length<1\/4<t.machines.length)\/24<t.reels.length):=by omega
 refine zz ?_
 refine Wo_mkMap rfl rfl fun h6 hE6 hW6 hg6 hn6=>?_
 have hI:CkI h h6 b1 h1.nx [i64 t.first,i64 t.days,.slice am t.machines.length cm,.slice ar t.reels.length cr] []:=⟨hE1.trans hE6,hE6.get hg1,⟨[],MapAt.new _ hg6,fun _=>rfl⟩,hE1.2.1⟩
 have hb1':b1<h1.nx:=by omega
 generalize h1.nx=bm at *
 replace hg1:=hI.g1
 refine zz ?_
 refine Wc_loop (fun (k:Nat) m ds h'=>ds=[]/\k<=t.machines.length/\CkI h h' b1 bm [i64 t.first,i64 t.days,.slice am t.machines.length cm,.slice ar t.reels.length cr] ((t.machines.take k).map Mach.name) ∧
   goM t 0 [] t.machines=goM t k ((t.machines.take k).map Mach.name) (t.machines.drop k) ∧
   AllK m [(1,.pointer (some ⟨b1,0,none⟩)),(5,.map (some bm)),(35,.slice am t.machines.length cm),(36,i64 t.machines.length),(37,i64 k)]) (fun k=>t.machines.length-k) 0 ?_ ?_
 ·exact⟨rfl,Nat.zero_le _,hI,rfl,rfl,rfl,rfl,rfl,rfl,trivial⟩
 clear hI hg1 hg6 hE6 hW6 hn6 hE1 hW1 hn1
 clear h6 h1
 rintro k m ds h1 ⟨rfl,hk,hI,hgo,hall⟩
 refine Wc_wf fun hw1=>?_
 have hg1:=hI.g1
 refine Wc.le ?_ (Le.kn hall)
 refine zz ?_
 refine Wo_dec rfl rfl rfl rfl (A_lss rfl rfl) (fun h6=>?_) (fun h6=>?_)
 ·have hk':k<t.machines.length:=by simpa using h6
  have hdr:t.machines.drop k=t.machines[k]::t.machines.drop (k+1):=List.drop_eq_getElem_cons hk'
  have htk:t.machines.take (k+1)=t.machines.take k++[t.machines[k]]:=by rw[List.take_add_one,List.getElem?_eq_getElem hk'];rfl
  rw[hdr,goM] at hgo
  obtain⟨b,o,oa,rfl,row,hrow,hma⟩:=hM k hk'
  have hmf:=hf.msF _ (List.getElem_mem hk')
  generalize hmk:t.machines[k]=mk at *
  obtain⟨a,cap,rfl,hpl⟩:=hma
  have hrow1:=hI.ext.row hrow
  refine zz ?_
  refine Wo_do rfl rfl rfl rfl (A_ix Und.h Tsz.h rfl rfl) ?_
  refine zz ?_
  refine Wo_alloc rfl rfl Zr.h fun h2 hE2 hW2 hg2 hn2=>?_
  refine zz ?_
  refine Wo_store rfl Tsz.h rfl rfl hg2 rfl rfl rfl fun h3 hU3=>?_
  have hb1n:b1≠h1.nx:=by have:=hw1 _ _ hg1;omega
  have hbmn:bm≠h1.nx:=by
   obtain⟨l,⟨es,c,e1,_⟩,_⟩:=hI.mp
   have:=hw1 _ _ e1;omega
  have hI3:=(hI.grow hE2).upd hU3 hw hI.ext.2.1 hb1n hbmn
  have hg7:=hU3.at'
  generalize h1.nx=b7 at *
  clear hU3
  refine zz ?_
  refine Wo_callB rfl rfl rfl rfl rfl Bod.h rfl rfl (filmName_sv _ _ hmf.name) (fun h8 h9 hE9=>?_) (fun h8 h9 hE9=>?_)
  rotate_left
  ·refine zz ?_
   refine Wc_ret (Lv_ret rfl ⟨?_,(hI3.grow hE9).ext⟩)
   rw[name_eq] at h8
   have hne:nameErr mk.name ((t.machines.take k).map Mach.name)=6:=by simp[nameErr,h8]
   rw[hne,if_pos (by decide)] at hgo
   rw[checkS,if_neg hC1,if_neg hC2,hgo];rfl
  rw[name_eq] at h8
  replace hI3:=hI3.grow hE9
  replace hg7:=hE9.get hg7
  obtain⟨l,mp1,mp2⟩:=hI3.mp
  refine zz ?_
  refine Wo_do rfl rfl rfl rfl (A_lookup strK Und.h Zr.h rfl mp1 (k:=mk.name) rfl) ?_
  rw[mp2]
  by_cases hin:mk.name∈(t.machines.take k).map Mach.name
  ·rw[if_pos hin]
   refine zz ?_
   refine Wc_ret (Lv_ret rfl ⟨?_,hI3.ext⟩)
   have hne:nameErr mk.name ((t.machines.take k).map Mach.name)=5:=by rw[nameErr,if_neg (by rw[h8];simp),if_pos hin]
   rw[hne,if_pos (by decide)] at hgo
   rw[checkS,if_neg hC1,if_neg hC2,hgo];rfl
  rw[if_neg hin]
  have hne:nameErr mk.name ((t.machines.take k).map Mach.name)=0:=by rw[nameErr,if_neg (by rw[h8];simp),if_neg hin]
  rw[hne,if_neg (by decide)] at hgo
  have hg1:=hI3.g1
  refine zz ?_
  refine Wo_dec rfl rfl rfl rfl (A_neq rfl rfl) (fun h10=>?_) (fun h10=>?_)
  ·refine zz ?_
   refine Wc_ret (Lv_ret rfl ⟨?_,hI3.ext⟩)
   have hme:machErr t mk=2:=if_pos h10
   rw[hme,if_pos (by decide)] at hgo
   rw[checkS,if_neg hC1,if_neg hC2,hgo];rfl
  refine zz ?_
  refine Wo_callB rfl rfl rfl rfl rfl Bod.h rfl rfl (containsFuncI_sv (first:=[]) (capv:=[]) (p:=fun n=>decide (n<0\/20<n)) (hpl.ext hI3.ext) Bod.h (fun h3 _ x _=>(check1_sv x h3).grows) hmf.pl) (fun h11 h12 hE12=>?_) (fun h11 h12 hE12=>?_)
  ·refine zz ?_
   refine Wc_ret (Lv_ret rfl ⟨?_,(hI3.grow hE12).ext⟩)
   have hme:machErr t mk=7:=by rw[machErr,if_neg h10,if_pos h11]
   rw[hme,if_pos (by decide)] at hgo
   rw[checkS,if_neg hC1,if_neg hC2,hgo];rfl
  have hme:machErr t mk=0:=by rw[machErr,if_neg h10,if_neg (by rw[h11];simp)]
  rw[hme,if_neg (by decide)] at hgo
  replace hg7:=hE12.get hg7
  replace hI3:=hI3.grow hE12
  obtain⟨l,mp1,mp2⟩:=hI3.mp
  refine zz ?_
  refine Wo_mapUpdate strK rfl Und.h rfl mp1 (k:=mk.name) rfl rfl fun h13 o13 hU13 hM13=>?_
  refine zz ?_
  refine⟨k+1,?_,rfl,hk',?_,?_,rfl,rfl,rfl,rfl,rfl,trivial⟩
  ·show t.machines.length-(k+1)<t.machines.length-k;omega
  ·rw[htk,List.map_append]
   refine⟨hU13.ext hI3.ext hw hI3.lt,hU13.get (by omega) hI3.g1,⟨_,hM13,?_⟩,hI3.lt⟩
   exact fun x=>setMem mp2 x
  ·rw[htk,List.map_append];exact hgo
 have hgM:goM t 0 [] t.machines=none:=by
  have hk2:k=t.machines.length:=by omega
  rw[hgo,hk2,List.drop_length];rfl
 have hE1:=hI.ext
 clear hgo hall hk
 clear hI
 refine zz ?_
 refine Wo_mkMap rfl rfl fun h6 hE6 hW6 hg6 hn6=>?_
 have hI:CkI h h6 b1 h1.nx [i64 t.first,i64 t.days,.slice am t.machines.length cm,.slice ar t.reels.length cr] []:=⟨hE1.trans hE6,hE6.get hg1,⟨[],MapAt.new _ hg6,fun _=>rfl⟩,hE1.2.1⟩
 have hb1':b1<h1.nx:=hw1 _ _ hg1
 clear hb1'
 have hb1':b1<h1.nx:=hw1 _ _ hg1
 generalize h1.nx=bm at *
 replace hg1:=hI.g1
 refine zz ?_
 refine Wc_loop (fun (k:Nat) m ds h'=>ds=[]/\k<=t.reels.length/\CkI h h' b1 bm [i64 t.first,i64 t.days,.slice am t.machines.length cm,.slice ar t.reels.length cr] ((t.reels.take k).map Reel.name) ∧
   goR t 0 [] t.reels=goR t k ((t.reels.take k).map Reel.name) (t.reels.drop k) ∧
   AllK m [(1,.pointer (some ⟨b1,0,none⟩)),(5,.map (some bm)),(73,.slice ar t.reels.length cr),(74,i64 t.reels.length),(75,i64 k)]) (fun k=>t.reels.length-k) 0 ?_ ?_
 ·exact⟨rfl,Nat.zero_le _,hI,rfl,rfl,rfl,rfl,rfl,rfl,trivial⟩
 clear hI hg1 hg6 hE6 hW6 hn6 hE1 hw1
 clear h6 h1
 rintro k m ds h1 ⟨rfl,hk,hI,hgo,hall⟩
 refine Wc_wf fun hw1=>?_
 have hg1:=hI.g1
 refine Wc.le ?_ (Le.kn hall)
 refine zz ?_
 refine Wo_dec rfl rfl rfl rfl (A_lss rfl rfl) (fun h6=>?_) (fun h6=>?_)
 ·have hk':k<t.reels.length:=by simpa using h6
  have hdr:t.reels.drop k=t.reels[k]::t.reels.drop (k+1):=List.drop_eq_getElem_cons hk'
  have htk:t.reels.take (k+1)=t.reels.take k++[t.reels[k]]:=by rw[List.take_add_one,List.getElem?_eq_getElem hk'];rfl
  rw[hdr,goR] at hgo
  obtain⟨b,o,oa,rfl,row,hrow,hma⟩:=hR k hk'
  have hmf:=hf.rsF _ (List.getElem_mem hk')
  generalize hmk:t.reels[k]=mk at *
  have hma0:=hma
  obtain⟨a,cap,rfl,hpl⟩:=hma
  have hrow1:=hI.ext.row hrow
  refine zz ?_
  refine Wo_do rfl rfl rfl rfl (A_ix Und.h Tsz.h rfl rfl) ?_
  refine zz ?_
  refine Wo_alloc rfl rfl Zr.h fun h2 hE2 hW2 hg2 hn2=>?_
  refine zz ?_
  refine Wo_store rfl Tsz.h rfl rfl hg2 rfl rfl rfl fun h3 hU3=>?_
  have hb1n:b1≠h1.nx:=by have:=hw1 _ _ hg1;omega
  have hbmn:bm≠h1.nx:=by
   obtain⟨l,⟨es,c,e1,_⟩,_⟩:=hI.mp
   have:=hw1 _ _ e1;omega
  have hI3:=(hI.grow hE2).upd hU3 hw hI.ext.2.1 hb1n hbmn
  have hg7:=hU3.at'
  generalize h1.nx=b7 at *
  clear hU3
  refine zz ?_
  refine Wo_callB rfl rfl rfl rfl rfl Bod.h rfl rfl (filmName_sv _ _ hmf.name) (fun h8 h9 hE9=>?_) (fun h8 h9 hE9=>?_)
  rotate_left
  ·refine zz ?_
   refine Wc_ret (Lv_ret rfl ⟨?_,(hI3.grow hE9).ext⟩)
   rw[name_eq] at h8
   have hne:nameErr mk.name ((t.reels.take k).map Reel.name)=6:=by simp[nameErr,h8]
   rw[hne,if_pos (by decide)] at hgo
   rw[checkS,if_neg hC1,if_neg hC2,hgM,hgo];rfl
  rw[name_eq] at h8
  replace hI3:=hI3.grow hE9
  replace hg7:=hE9.get hg7
  obtain⟨l,mp1,mp2⟩:=hI3.mp
  refine zz ?_
  refine Wo_do rfl rfl rfl rfl (A_lookup strK Und.h Zr.h rfl mp1 (k:=mk.name) rfl) ?_
  rw[mp2]
  by_cases hin:mk.name∈(t.reels.take k).map Reel.name
  ·rw[if_pos hin]
   refine zz ?_
   refine Wc_ret (Lv_ret rfl ⟨?_,hI3.ext⟩)
   have hne:nameErr mk.name ((t.reels.take k).map Reel.name)=5:=by rw[nameErr,if_neg (by rw[h8];simp),if_pos hin]
   rw[hne,if_pos (by decide)] at hgo
   rw[checkS,if_neg hC1,if_neg hC2,hgM,hgo];rfl
  rw[if_neg hin]
  have hne:nameErr mk.name ((t.reels.take k).map Reel.name)=0:=by rw[nameErr,if_neg (by rw[h8];simp),if_neg hin]
  rw[hne,if_neg (by decide)] at hgo
  have hg1:=hI3.g1
  refine zz ?_
  refine Wo_callE rfl rfl rfl rfl rfl Bod.h rfl rfl (odd_sv (t:=t) (r:=mk) ⟨_,_,_,_,rfl,RowsAt.ext (R:=MachAt) (fun x y=>MachAt.ext x y) hM hI3.ext,RowsAt.ext (R:=ReelAt) (fun x y=>ReelAt.ext x y) hR hI3.ext⟩ (hma0.ext hI3.ext) hmf (by omega) (by omega) (by omega)) fun h12 hE12=>?_
  refine zz ?_
  refine Wo_dec rfl rfl rfl rfl (A_neq rfl rfl) (fun h10=>?_) (fun h10=>?_)
  ·refine zz ?_
   refine Wc_ret (Lv_ret rfl ⟨?_,(hI3.grow hE12).ext⟩)
   rw[if_pos h10] at hgo
   rw[checkS,if_neg hC1,if_neg hC2,hgM,hgo];rfl
  rw[if_neg h10] at hgo
  replace hg7:=hE12.get hg7
  replace hI3:=hI3.grow hE12
  obtain⟨l,mp1,mp2⟩:=hI3.mp
  refine zz ?_
  refine Wo_mapUpdate strK rfl Und.h rfl mp1 (k:=mk.name) rfl rfl fun h13 o13 hU13 hM13=>?_
  refine zz ?_
  refine⟨k+1,?_,rfl,hk',?_,?_,rfl,rfl,rfl,rfl,rfl,trivial⟩
  ·show t.reels.length-(k+1)<t.reels.length-k;omega
  ·rw[htk,List.map_append]
   refine⟨hU13.ext hI3.ext hw hI3.lt,hU13.get (by omega) hI3.g1,⟨_,hM13,?_⟩,hI3.lt⟩
   exact fun x=>setMem mp2 x
  ·rw[htk,List.map_append];exact hgo
 have hgR:goR t 0 [] t.reels=none:=by
  have hk2:k=t.reels.length:=by omega
  rw[hgo,hk2,List.drop_length];rfl
 refine zz ?_
 refine Wc_ret (Lv_ret rfl ⟨?_,hI.ext⟩)
 rw[checkS,if_neg hC1,if_neg hC2,hgM,hgR];rfl
end Go.Dw
/- C9: the contract of telecineref04.Check. -/
namespace Go.Dw
open Go Go.Dx Go.Proofs
set_option maxRecDepth 100000
theorem blkOf_own {h0 h:Heap}{v:Value}{el:TypeId}{sz:Nat}{cs:List Value}{n:Nat}(ho:OwnSl h0 h v el sz cs n):(∀b,blkOf v=some b->h0.nx<=b):=by
 rcases ho with ⟨rfl,_,_⟩|⟨b,rfl,_,_,h4⟩
 ·intro b hb;cases hb
 ·intro b' hb;simp[blkOf] at hb;omega
theorem refCheck_sv {tc:List Value}{t:Task}{h:Heap}(ht:TaskAt h tc t)(hf:t.Fit):Sv Tryz.prog 20 [.agg ⟨tc⟩] h (RetP fun v h'=>v=tup3 (checkS t)/\Ext h h'):=by
 have ht0:=ht
 obtain⟨am,cm,ar,cr,rfl,hM,hR⟩:=ht
 have hf1:=hf.first
 have hd1:=hf.days
 have hm1:=hf.ms
 have hr1:=hf.rs
 refine Sv_wf fun hw=>?_
 refine Sv_enter Tryz.func20 rfl (by rw[Tryz.ntmps20];rfl) ?_;show Wc Tryz.prog ⟨20,105,none⟩ _ _ _ _ _
 refine zz ?_
 refine Wo_box rfl rfl rfl fun h1 hE1 hW1 hg1 hn1=>?_
 generalize hb1:h.nx=b1 at *
 refine zz ?_
 refine Wo_callP rfl rfl rfl rfl rfl Bod.h rfl rfl (in_sv _ _ _ _) (fun h2=>?_) (fun h2=>?_)
 rotate_left
 ·refine zz ?_
  refine Wc_ret (Lv_ret rfl ⟨?_,hE1⟩)
  rw[checkS,if_pos (by have:=of_decide_eq_false h2;omega)];rfl
 have h2':=of_decide_eq_true h2
 refine zz ?_
 refine Wo_callP rfl rfl rfl rfl rfl Bod.h rfl rfl (in_sv _ _ _ _) (fun h3=>?_) (fun h3=>?_)
 rotate_left
 ·refine zz ?_
  refine Wc_ret (Lv_ret rfl ⟨?_,hE1⟩)
  rw[checkS,if_pos (by have:=of_decide_eq_false h3;omega)];rfl
 have h3':=of_decide_eq_true h3
 refine zz ?_
 refine Wo_dec rfl rfl rfl rfl (A_gtr rfl rfl) (fun h4=>?_) (fun h4=>?_)
 ·refine zz ?_
  refine Wc_ret (Lv_ret rfl ⟨?_,hE1⟩)
  rw[checkS,if_pos (by omega)];rfl
 have hC1:¬((t.first<0\/80000<t.first)\/(t.days<1\/60<t.days)\/80000<t.first+t.days-1):=by omega
 refine zz ?_
 refine Wo_callP rfl rfl rfl rfl rfl Bod.h rfl rfl (in_sv _ _ _ _) (fun h5=>?_) (fun h5=>?_)
 rotate_left
 ·refine zz ?_
  refine Wc_ret (Lv_ret rfl ⟨?_,hE1⟩)
  rw[checkS,if_neg hC1,if_pos (by have:=of_decide_eq_false h5;omega)];rfl
 have h5':=of_decide_eq_true h5
 refine zz ?_
 refine Wo_dec rfl rfl rfl rfl (A_gtr rfl rfl) (fun h6=>?_) (fun h6=>?_)
 ·refine zz ?_
  refine Wc_ret (Lv_ret rfl ⟨?_,hE1⟩)
  rw[checkS,if_neg hC1,if_pos (by omega)];rfl
 have hC2:¬((t.machines.length<1\/4<t.machines.length)\/24<t.reels.length):=by omega
 refine zz ?_
 refine Wc_loop (fun (s:Nat×Value) m ds h'=>ds=[]/\s.1<=t.machines.length/\Ext h h'/\h'.get b1=some (.cells [i64 t.first,i64 t.days,.slice am t.machines.length cm,.slice ar t.reels.length cr] 25 false)/\OwnSl h1 h' s.2 9 1 (((t.machines.take s.1).map Mach.name).map str) s.1/\Ext h1 h' ∧
   goM t 0 [] t.machines=goM t s.1 ((t.machines.take s.1).map Mach.name) (t.machines.drop s.1) ∧
   AllK m [(1,.pointer (some ⟨b1,0,none⟩)),(5,s.2),(6,i64 s.1)]) (fun s=>t.machines.length-s.1) (0,.slice none 0 0) ?_ ?_
 ·exact⟨rfl,Nat.zero_le _,hE1,hg1,OwnSl.nil _ _ _ _,Ext.refl _,rfl,rfl,rfl,rfl,trivial⟩
 rintro⟨k,nv⟩ m ds h7 ⟨rfl,hk,hE7,hg7,hO7,hE17,hgo,hall⟩
 simp only at hk hO7 hgo hall
 refine Wc.le ?_ (Le.kn hall)
 refine zz ?_
 refine Wo_dec rfl rfl rfl rfl (A_lss rfl rfl) (fun h8=>?_) (fun h8=>?_)
 ·have hk':k<t.machines.length:=by simpa using h8
  have hdr:t.machines.drop k=t.machines[k]::t.machines.drop (k+1):=List.drop_eq_getElem_cons hk'
  have htk:t.machines.take (k+1)=t.machines.take k++[t.machines[k]]:=by rw[List.take_add_one,List.getElem?_eq_getElem hk'];rfl
  rw[hdr,goM] at hgo
  obtain⟨b,o,oa,rfl,row,hrow,hma⟩:=hM k hk'
  have hmf:=hf.msF _ (List.getElem_mem hk')
  generalize hmk:t.machines[k]=mk at *
  have hma0:=hma
  obtain⟨a,cap,rfl,hpl⟩:=hma
  have hrow7:=hE7.row hrow
  have hcell:cellAt h7 b (o+k*2+0)=some (str mk.name):=cell_of_row hrow7 rfl
  obtain⟨aN,rfl,_,hNl⟩:=hO7.list
  have hNlen:((t.machines.take k).map Mach.name).length=k:=by simp;omega
  refine zz ?_
  refine Wo_do rfl rfl rfl rfl (A_ix Und.h Tsz.h rfl rfl) ?_
  refine zz ?_
  refine Wo_callV rfl rfl rfl rfl rfl Bod.h rfl rfl (refname_sv hNl hmf.name (by omega)) ?_
  refine zz ?_
  refine Wo_dec rfl rfl rfl rfl (A_eql rfl rfl) (fun h9=>?_) (fun h9=>?_)
  ·rw[h9] at hgo
   rw[if_neg (by decide)] at hgo
   refine zz ?_
   refine Wc_draw hmix [0,0,2,0,14,30,63,127] [0,1,2,3,4,5] (some 6) [([],(some 7)),([],none)] (by kernel_rfl) (by kernel_rfl) ?_
   refine z_r ?_;refine z_f ?_;refine z_l ?_;refine z_m ?_;refine z_i ?_;refine z_r ?_
   refine Wp_eff [0,1,2,3,4,5] (by kernel_rfl) rfl (Stl_nil rfl) rfl nb rfl (W1_callE rfl rfl rfl rfl rfl Bod.h (refmachine_sv (ht0.ext hE7) (hma0.ext hE7) hmf) (fun h10 hE10=>?_))
   refine Wp_eff [0,1,2,3,4,5,6] (by kernel_rfl) rfl (Stl_nil rfl) rfl nb rfl (W1_op rfl rfl (A_assign rfl) ?_)
   refine Wp_end (Stl_nil rfl) nb' ?_
   replace hE7:=hE7.trans hE10
   replace hg7:=hE10.get hg7
   replace hE17:=hE17.trans hE10
   replace hO7:=hO7.ext hE10
   replace hcell:=hE10.cell hcell
   refine zz ?_
   refine Wo_dec rfl rfl rfl rfl (A_neq rfl rfl) (fun h11=>?_) (fun h11=>?_)
   ·refine zz ?_
    refine Wc_ret (Lv_ret rfl ⟨?_,hE7⟩)
    rw[if_pos h11] at hgo
    rw[checkS,if_neg hC1,if_neg hC2,hgo];rfl
   rw[if_neg h11] at hgo
   refine zz ?_
   refine Wo_do rfl rfl rfl rfl (A_ix Und.h Tsz.h rfl rfl) ?_
   refine zz ?_
   refine Wo_bs rfl rfl Und.h Tsz.h Zr.h rfl rfl rfl rfl rfl fun h12 hE12 hW12 hg12 hn12=>?_
   refine Wo_append (k:=1) (l:=[str mk.name]) hW1 (hE17.trans hE12) rfl rfl rfl rfl rfl Und.h inferInstance rfl rfl (hO7.ext hE12) (asrc_row Und.h (by intro k;simp) (rowAt_cells hg12 rfl)) rfl rfl (by omega) (by omega) (by omega) fun v13 h13 hO13 hE13 hK13=>?_
   have hg13:=hK13 b1 _ (fun hb=>by have:=blkOf_own (hO7.ext hE12) _ hb;omega) (hE12.get hg7)
   refine zz ?_
   refine⟨(k+1,v13),?_,rfl,hk',hE1.trans hE13,hg13,?_,hE13,?_,rfl,rfl,rfl,trivial⟩
   ·show t.machines.length-(k+1)<t.machines.length-k;omega
   ·rw[htk];simpa using hO13
   ·rw[htk,List.map_append];exact hgo
  ·rw[if_pos h9] at hgo
   refine zz ?_
   refine Wo_dec rfl rfl rfl rfl (A_neq rfl rfl) (fun h10=>?_) (fun h10=>?_)
   ·refine zz ?_
    refine Wc_ret (Lv_ret rfl ⟨?_,hE7⟩)
    rw[checkS,if_neg hC1,if_neg hC2,hgo];rfl
   ·exact absurd h9 h10
 have hgM:goM t 0 [] t.machines=none:=by
  have hk2:k=t.machines.length:=by omega
  rw[hgo,hk2,List.drop_length];rfl
 clear hgo hall hk hO7
 refine zz ?_
 refine Wc_loop (fun (s:Nat×Value) m ds h'=>ds=[]/\s.1<=t.reels.length/\Ext h h'/\h'.get b1=some (.cells [i64 t.first,i64 t.days,.slice am t.machines.length cm,.slice ar t.reels.length cr] 25 false)/\OwnSl h1 h' s.2 9 1 (((t.reels.take s.1).map Reel.name).map str) s.1/\Ext h1 h' ∧
   goR t 0 [] t.reels=goR t s.1 ((t.reels.take s.1).map Reel.name) (t.reels.drop s.1) ∧
   AllK m [(1,.pointer (some ⟨b1,0,none⟩)),(5,s.2),(8,i64 s.1)]) (fun s=>t.reels.length-s.1) (0,.slice none 0 0) ?_ ?_
 ·exact⟨rfl,Nat.zero_le _,hE7,hg7,OwnSl.nil _ _ _ _,hE17,rfl,rfl,rfl,rfl,trivial⟩
 clear hE7 hg7 hE17
 clear h7
 rintro⟨k,nv⟩ m ds h7 ⟨rfl,hk,hE7,hg7,hO7,hE17,hgo,hall⟩
 simp only at hk hO7 hgo hall
 refine Wc.le ?_ (Le.kn hall)
 refine zz ?_
 refine Wo_dec rfl rfl rfl rfl (A_lss rfl rfl) (fun h8=>?_) (fun h8=>?_)
 ·have hk':k<t.reels.length:=by simpa using h8
  have hdr:t.reels.drop k=t.reels[k]::t.reels.drop (k+1):=List.drop_eq_getElem_cons hk'
  have htk:t.reels.take (k+1)=t.reels.take k++[t.reels[k]]:=by rw[List.take_add_one,List.getElem?_eq_getElem hk'];rfl
  rw[hdr,goR] at hgo
  obtain⟨b,o,oa,rfl,row,hrow,hma⟩:=hR k hk'
  have hmf:=hf.rsF _ (List.getElem_mem hk')
  generalize hmk:t.reels[k]=mk at *
  have hma0:=hma
  obtain⟨a,cap,rfl,hpl⟩:=hma
  have hrow7:=hE7.row hrow
  have hcell:cellAt h7 b (o+k*5+0)=some (str mk.name):=cell_of_row hrow7 rfl
  obtain⟨aN,rfl,_,hNl⟩:=hO7.list
  have hNlen:((t.reels.take k).map Reel.name).length=k:=by simp;omega
  have hgo':goR t 0 [] t.reels=if reelAll t mk ((t.reels.take k).map Reel.name)≠0 then some (3,(k:Int),reelAll t mk ((t.reels.take k).map Reel.name)) else goR t (k+1) ((t.reels.take k).map Reel.name++[mk.name]) (t.reels.drop (k+1)):=by
   rw[hgo]
   unfold reelAll
   by_cases hq:nameErr mk.name ((t.reels.take k).map Reel.name)≠0
   ·simp only[if_pos hq]
   ·simp only[if_neg hq]
  clear hgo
  refine zz ?_
  refine Wc_draw hmix [0,0,2,0,14,30,0,127,255] [0,1,2,3,4,5,6] (some 7) [([],(some 8)),([],none)] (by kernel_rfl) (by kernel_rfl) ?_
  refine z_r ?_;refine z_f ?_;refine z_l ?_;refine z_m ?_;refine z_i ?_;refine z_r ?_;refine z_m ?_
  refine Wp_eff [0,1,2,3,4,5,6] (by kernel_rfl) rfl (Stl_nil rfl) rfl nb rfl (W1_callE rfl rfl rfl rfl rfl Bod.h (refreel_sv (ht0.ext hE7) (hma0.ext hE7) hmf hNl (by omega) (by omega) (by omega) (by omega)) (fun h10 hE10=>?_))
  refine Wp_eff [0,1,2,3,4,5,6,7] (by kernel_rfl) rfl (Stl_nil rfl) rfl nb rfl (W1_op rfl rfl (A_assign rfl) ?_)
  refine Wp_end (Stl_nil rfl) nb' ?_
  replace hE7:=hE7.trans hE10
  replace hg7:=hE10.get hg7
  replace hE17:=hE17.trans hE10
  replace hO7:=hO7.ext hE10
  replace hcell:=hE10.cell hcell
  refine zz ?_
  refine Wo_dec rfl rfl rfl rfl (A_neq rfl rfl) (fun h11=>?_) (fun h11=>?_)
  ·refine zz ?_
   refine Wc_ret (Lv_ret rfl ⟨?_,hE7⟩)
   rw[if_pos h11] at hgo'
   rw[checkS,if_neg hC1,if_neg hC2,hgM,hgo'];rfl
  rw[if_neg h11] at hgo'
  refine zz ?_
  refine Wo_do rfl rfl rfl rfl (A_ix Und.h Tsz.h rfl rfl) ?_
  refine zz ?_
  refine Wo_bs rfl rfl Und.h Tsz.h Zr.h rfl rfl rfl rfl rfl fun h12 hE12 hW12 hg12 hn12=>?_
  refine Wo_append (k:=1) (l:=[str mk.name]) hW1 (hE17.trans hE12) rfl rfl rfl rfl rfl Und.h inferInstance rfl rfl (hO7.ext hE12) (asrc_row Und.h (by intro k;simp) (rowAt_cells hg12 rfl)) rfl rfl (by omega) (by omega) (by omega) fun v13 h13 hO13 hE13 hK13=>?_
  have hg13:=hK13 b1 _ (fun hb=>by have:=blkOf_own (hO7.ext hE12) _ hb;omega) (hE12.get hg7)
  refine zz ?_
  refine⟨(k+1,v13),?_,rfl,hk',hE1.trans hE13,hg13,?_,hE13,?_,rfl,rfl,rfl,trivial⟩
  ·show t.reels.length-(k+1)<t.reels.length-k;omega
  ·rw[htk];simpa using hO13
  ·rw[htk,List.map_append];exact hgo'
 have hgR:goR t 0 [] t.reels=none:=by
  have hk2:k=t.reels.length:=by omega
  rw[hgo,hk2,List.drop_length];rfl
 refine zz ?_
 refine Wc_ret (Lv_ret rfl ⟨?_,hE7⟩)
 rw[checkS,if_neg hC1,if_neg hC2,hgM,hgR];rfl
end Go.Dw
