/- P1: contracts: the places of a reel (rescue.places), a range over a function. -/
import Derived.Test.YtcjmpdpgfmjcgaaGreatDoorMG2
import Derived.Test.YtcjmpdpgfmjcgaaGreatDoorMG8
namespace Go.Dw
open Go Go.Dx Go.Proofs
set_option maxRecDepth 100000
abbrev Pl:=Int×Int×Int
abbrev plV (p:Pl):Value:=.agg ⟨[i64 p.1,i64 p.2.1,i64 p.2.2]⟩
def machP (t:Task)(d m:Int):List Pl:=(List.range (capT t m d).toNat).map fun (n:Nat)=>(m,d,(n:Int))
def dayP (t:Task)(r:Int)(d:Int):List Pl:=(reelAt t r).machines.flatMap (machP t d)
def placesL (t:Task)(r:Int):List Pl:=(List.range ((reelAt t r).due-(reelAt t r).ready+1).toNat).flatMap fun (k:Nat)=>dayP t r ((reelAt t r).ready+k)
theorem flat_take {α β:Type}{f:α->List β}{l:List α}{k:Nat}(hk:k<l.length):∃post,l.flatMap f=(l.take k).flatMap f++(f l[k]++post):=by
 refine⟨(l.drop (k+1)).flatMap f,?_⟩
 have:l=l.take k++(l[k]::l.drop (k+1)):=by
  rw[<-List.drop_eq_getElem_cons hk,List.take_append_drop]
 have e:=congrArg (List.flatMap f) this
 rw[List.flatMap_append,List.flatMap_cons] at e
 exact e
theorem flat_range {β:Type}{f:Nat->List β}{n k:Nat}(hk:k<n):∃post,(List.range n).flatMap f=(List.range k).flatMap f++(f k++post):=by
 obtain⟨post,h⟩:=flat_take (f:=f) (l:=List.range n) (k:=k) (by simpa using hk)
 refine⟨post,?_⟩
 rw[h,List.take_range,Nat.min_eq_left (by omega)]
 simp
theorem map_range {β:Type}{f:Nat->β}{n k:Nat}(hk:k<n):∃post,(List.range n).map f=(List.range k).map f++(f k::post):=by
 obtain⟨post,h⟩:=flat_range (f:=fun i=>[f i]) hk
 refine⟨post,?_⟩
 have e:∀l:List Nat,l.flatMap (fun i=>[f i])=l.map f:=fun l=>by
  induction l with
  | nil=>rfl
  | cons a l ih=>simp[List.flatMap_cons,ih]
 rw[e,e] at h
 exact h
def benchC (t:Task)(am ar:Option Addr)(cm cr:Nat)(mp:Value):List Value:=[i64 t.first,i64 t.days,.slice am t.machines.length cm,.slice ar t.reels.length cr,mp]
theorem places_sv {bb:Nat}{r:Int}{h:Heap}:Sv Tryz.prog 62 [.pointer (some ⟨bb,0,none⟩),i64 r] h (RetP fun v h'=>∃c1 c2,v=.func (.func 106) ⟨[]⟩ ⟨[.pointer (some ⟨c1,0,none⟩),.pointer (some ⟨c2,0,none⟩)]⟩/\Ext h h'/\h'.get c1=some (.cells [.pointer (some ⟨bb,0,none⟩)] 113 false)/\h'.get c2=some (.cells [i64 r] 3 false)/\h.nx<=c1/\h.nx<=c2/\c1<h'.nx/\c2<h'.nx):=by
 refine Sv_enter Tryz.func62 rfl (by rw[Tryz.ntmps62];rfl) ?_;show Wc Tryz.prog ⟨62,6,none⟩ _ _ _ _ _
 refine zz ?_
 refine Wo_box rfl rfl rfl fun h1 hE1 hW1 hg1 hn1=>?_
 refine Wo_box rfl rfl rfl fun h2 hE2 hW2 hg2 hn2=>?_
 replace hg1:=hE2.get hg1
 refine zz ?_
 exact Wc_ret (Lv_ret rfl ⟨_,_,rfl,hE1.trans hE2,hg1,hg2,Nat.le_refl _,by omega,by omega,by omega⟩)
structure IterJ (h0:Heap)(t:Task)(am ar:Option Addr)(cm cr:Nat)(mp:Value)(bb c1 c2:Nat)(r:Int)(h':Heap):Prop where
 ext:Ext h0 h'
 g1:h'.get c1=some (.cells [.pointer (some ⟨bb,0,none⟩)] 113 false)
 g2:h'.get c2=some (.cells [i64 r] 3 false)
 gb:h'.get bb=some (.cells (benchC t am ar cm cr mp) 116 false)
set_option maxHeartbeats 1000000 in
theorem iter_sv {h0 h:Heap}{t:Task}{am ar:Option Addr}{cm cr:Nat}{mp:Value}{bb c1 c2 l:Nat}{r:Nat}(hM:RowsAt 2 MachAt h0 am t.machines)(hR:RowsAt 5 ReelAt h0 ar t.reels)(hf:t.Fit)(hV:Valid t)(hr:r<t.reels.length)
  (J:List Pl->Heap->Prop) (K:Heap->Prop) (S:Nat->Prop) (hS:∀b,S b->b<h.nx) (hJ0:J [] h) (hJd:∀pre h',J pre h'->IterJ h0 t am ar cm cr mp bb c1 c2 r h') (hJe:∀pre h1 h2,J pre h1->Ext h1 h2->J pre h2)
  (hy:∀pre p post h',placesL t r=pre++p::post->J pre h'->Yd Tryz.prog l [plV p] h' (fun v h''=>(v=.bool true/\J (pre++[p]) h''/\Exb S h' h'')\/(v=.bool false/\K h''))) :
  Sv Tryz.prog 106 [.func (.yield l) ⟨[]⟩ ⟨[]⟩,.pointer (some ⟨c1,0,none⟩),.pointer (some ⟨c2,0,none⟩)] h (RetP fun _ h'=>J (placesL t r) h'\/K h'):=by
 obtain⟨hE0,hg1,hg2,hgb⟩:=hJd _ _ hJ0
 obtain⟨bR,oR,oaR,aR,cR,rfl,hrR,hIR,_⟩:=reelRow hR hr
 have hrv:=hV.rs _ (List.getElem_mem hr)
 rw[<-reelAt_nat hr] at hrv
 obtain⟨_,hmr,_,⟨q1,q2,q3⟩,_⟩:=hrv
 have hml:Len (reelAt t r).machines:=by rw[reelAt_nat hr];exact (hf.rsF _ (List.getElem_mem hr)).ms
 have hrs:=hV.r1
 have hms:=hV.m1
 have hf0:=hV.f0
 have hf1:=hV.f1
 have hd1:=hV.d1
 unfold benchC at hgb
 replace hrR:=hE0.row hrR
 refine Sv_wf fun hw=>?_
 refine Sv_enter Tryz.func106 rfl (by rw[Tryz.ntmps106];rfl) ?_;show Wc Tryz.prog ⟨106,62,none⟩ _ _ _ _ _
 refine zz ?_
 refine Wc_draw hmix [0,1,3,7,15,0,63,127,0,511] [0,1,2,3,4,5,6,7,8] (some 9) [([],none)] (by kernel_rfl) (by kernel_rfl) ?_
 refine z_l ?_;refine z_q ?_;refine z_f ?_;refine z_f ?_;refine z_l ?_;refine z_l ?_;refine z_i ?_;refine z_r ?_
 refine Wp_new (nk:=.ptr) rfl rfl rfl rfl rfl (fun _ _ _=>N_alloc Zr.h) ?_
 refine Wp_eff (h1:=(Heap.add h _)) [0,1,2,3,4,5,6,7,8] (by kernel_rfl) rfl (Stl_nil rfl) rfl rfl rfl (W1_store rfl rfl Tsz.h rfl rfl Heap.get_add_same rfl rfl rfl (fun h2 hU2=>?_))
 refine Wp_end (Stl_nil rfl) rfl ?_
 have hE2:Ext h h2:=hU2.ext (Ext.add hw _) hw (Nat.le_refl _)
 have hgx:=hU2.at'
 have hJ2:=hJe _ _ _ hJ0 hE2
 have hbx:h.nx<=h.nx:=Nat.le_refl _
 have hSx:¬S h.nx:=fun hs=>by have:=hS _ hs;omega
 clear hU2 hE2 hbx hw hJ0 hE0 hg1 hg2 hgb hrR
 generalize h.nx=bx at *
 refine zz ?_
 refine Wc_loop (fun (k:Nat) m ds h'=>ds=[]/\k<=((reelAt t r).due-(reelAt t r).ready+1).toNat/\J ((List.range k).flatMap fun (k:Nat)=>dayP t r ((reelAt t r).ready+k)) h'/\h'.get bx=some (.cells [str (reelAt t r).name,.slice aR (reelAt t r).machines.length cR,i64 (reelAt t r).ready,i64 (reelAt t r).due,i64 (reelAt t r).risk] 63 false)/\AllK m [(0,.func (.yield l) ⟨[]⟩ ⟨[]⟩),(1,.pointer (some ⟨c1,0,none⟩)),(2,.pointer (some ⟨c2,0,none⟩)),(4,.pointer (some ⟨bx,0,none⟩)),(5,i64 ((reelAt t r).ready+k))]) (fun k=>((reelAt t r).due-(reelAt t r).ready+1).toNat-k) 0 ?_ ?_
 ·exact⟨rfl,Nat.zero_le _,hJ2,hgx,rfl,rfl,rfl,rfl,by show _=some (i64 ((reelAt t r).ready+(0:Nat)));rw[show (reelAt t r).ready+(0:Nat)=(reelAt t r).ready by omega];rfl,trivial⟩
 clear hJ2 hgx h2 h
 rintro k m ds h1 ⟨rfl,hk,hJ1,hgx,hall⟩
 refine Wc.le ?_ (Le.kn hall)
 refine zz ?_
 refine Wo_dec rfl rfl rfl rfl (A_leq rfl rfl) (fun hkp=>?_) (fun hkp=>?_)
 rotate_left
 ·have hk2:k=((reelAt t r).due-(reelAt t r).ready+1).toNat:=by omega
  refine zz ?_
  exact Lv_normal rfl (.inl (by subst hk2;exact hJ1))
 have hk':k<((reelAt t r).due-(reelAt t r).ready+1).toNat:=by omega
 obtain⟨postD,hpD⟩:=flat_range (f:=fun (k:Nat)=>dayP t r ((reelAt t r).ready+k)) hk'
 refine zz ?_
 refine Wc_loop (fun (j:Nat) m ds h'=>ds=[]/\j<=(reelAt t r).machines.length/\J ((List.range k).flatMap (fun (k:Nat)=>dayP t r ((reelAt t r).ready+k))++((reelAt t r).machines.take j).flatMap (machP t ((reelAt t r).ready+k))) h'/\h'.get bx=some (.cells [str (reelAt t r).name,.slice aR (reelAt t r).machines.length cR,i64 (reelAt t r).ready,i64 (reelAt t r).due,i64 (reelAt t r).risk] 63 false)/\AllK m [(0,.func (.yield l) ⟨[]⟩ ⟨[]⟩),(1,.pointer (some ⟨c1,0,none⟩)),(2,.pointer (some ⟨c2,0,none⟩)),(4,.pointer (some ⟨bx,0,none⟩)),(5,i64 ((reelAt t r).ready+k)),(26,.slice aR (reelAt t r).machines.length cR),(27,i64 (reelAt t r).machines.length),(28,i64 j)]) (fun j=>(reelAt t r).machines.length-j) 0 ?_ ?_
 ·exact⟨rfl,Nat.zero_le _,by simpa using hJ1,hgx,rfl,rfl,rfl,rfl,rfl,rfl,rfl,rfl,trivial⟩
 clear hJ1 hgx h1 hall
 rintro j m ds h1 ⟨rfl,hj,hJ1,hgx,hall⟩
 refine Wc.le ?_ (Le.kn hall)
 refine zz ?_
 refine Wo_dec rfl rfl rfl rfl (A_lss rfl rfl) (fun hjp=>?_) (fun hjp=>?_)
 rotate_left
 ·have hj2:j=(reelAt t r).machines.length:=by omega
  subst hj2
  rw[List.take_length] at hJ1
  refine zz ?_
  refine⟨k+1,?_,rfl,hk',?_,hgx,rfl,rfl,rfl,rfl,?_,trivial⟩
  ·simp only;omega
  ·rw[List.range_succ,List.flatMap_append]
   simpa [dayP] using hJ1
  ·show _=some (i64 ((reelAt t r).ready+((k+1:Nat):Int)))
   rw[show (reelAt t r).ready+((k+1:Nat):Int)=(reelAt t r).ready+(k:Int)+1 by omega];rfl
 have hj':j<(reelAt t r).machines.length:=by omega
 obtain⟨postM,hpM⟩:=flat_take (f:=machP t ((reelAt t r).ready+k)) hj'
 have hmj:=hmr _ (List.getElem_mem hj')
 obtain⟨mj,hmj2⟩:∃n:Nat,(reelAt t r).machines[j]=n:=⟨(reelAt t r).machines[j].toNat,by omega⟩
 have hml':mj<t.machines.length:=by omega
 obtain⟨hpl1,hpl2⟩:=hV.ms _ (List.getElem_mem hml')
 have hdl:((reelAt t r).ready+k-t.first).toNat<t.machines[mj].places.length:=by omega
 have hcap:capT t mj ((reelAt t r).ready+k)=t.machines[mj].places[((reelAt t r).ready+k-t.first).toNat]:=by
  unfold capT
  simp[List.getD_eq_getElem?_getD,hml',hdl]
 have hcr:=hpl2 _ (List.getElem_mem hdl)
 rw[<-hcap] at hcr
 obtain⟨hE0,hg1,hg2,hgb⟩:=hJd _ _ hJ1
 unfold benchC at hgb
 obtain⟨bI,oI,oaI,rfl,hcI⟩:=hIR j hj'
 obtain⟨bM,oM,oaM,aM,cM,rfl,hcM,hIM⟩:=machRow hM hml'
 obtain⟨bP,oP,oaP,rfl,hcP⟩:=hIM _ hdl
 replace hcI:=hE0.cell hcI
 replace hcM:=hE0.cell hcM
 replace hcP:=hE0.cell hcP
 rw[hmj2] at hcI
 rw[<-hcap] at hcP
 refine zz ?_
 refine Wo_do rfl rfl rfl rfl (A_ix Und.h Tsz.h rfl rfl) ?_
 refine zz ?_
 refine Wc_draw hmix [0,1,3,7,15,0,63,127,255,0,0,1024,3072,7168,15360,32256,65535,131071,0] [0,1,2,3,4,5,6,7,8,9,10,11,12,13,14,15,16,17,18] none [] (by kernel_rfl) (by kernel_rfl) ?_
 refine z_l ?_;refine z_q ?_;refine z_f ?_;refine z_f ?_;refine z_l ?_;refine z_m ?_;refine z_i ?_;refine z_f ?_;refine z_l ?_;refine z_m ?_;refine z_l ?_;refine z_q ?_;refine z_f ?_;refine z_f ?_;refine z_l ?_;refine z_u ?_;refine Wp_pure rfl rfl rfl rfl rfl (fun _=>A_indexAddr (k:=((reelAt t r).ready+k-t.first).toNat) (z:=(reelAt t r).ready+k-t.first) Und.h Tsz.h rfl rfl (by omega) hdl) ?_;refine z_l ?_;refine z_m ?_
 refine Wp_end (Stl_nil rfl) nb' ?_
 refine zz ?_
 refine Wc_loop (fun (n:Nat) m ds h'=>ds=[]/\n<=(capT t mj ((reelAt t r).ready+k)).toNat/\J ((List.range k).flatMap (fun (k:Nat)=>dayP t r ((reelAt t r).ready+k))++(((reelAt t r).machines.take j).flatMap (machP t ((reelAt t r).ready+k))++(List.range n).map fun (n:Nat)=>((mj:Int),(reelAt t r).ready+(k:Int),(n:Int)))) h'/\h'.get bx=some (.cells [str (reelAt t r).name,.slice (some ⟨bI,oI,oaI⟩) (reelAt t r).machines.length cR,i64 (reelAt t r).ready,i64 (reelAt t r).due,i64 (reelAt t r).risk] 63 false)/\AllK m [(0,.func (.yield l) ⟨[]⟩ ⟨[]⟩),(1,.pointer (some ⟨c1,0,none⟩)),(2,.pointer (some ⟨c2,0,none⟩)),(4,.pointer (some ⟨bx,0,none⟩)),(5,i64 ((reelAt t r).ready+k)),(7,i64 mj),(26,.slice (some ⟨bI,oI,oaI⟩) (reelAt t r).machines.length cR),(27,i64 (reelAt t r).machines.length),(28,i64 j),(49,i64 (capT t mj ((reelAt t r).ready+k))),(50,i64 n)]) (fun n=>(capT t mj ((reelAt t r).ready+k)).toNat-n) 0 ?_ ?_
 ·exact⟨rfl,Nat.zero_le _,by simpa using hJ1,hgx,rfl,rfl,rfl,rfl,rfl,rfl,rfl,rfl,rfl,rfl,rfl,trivial⟩
 clear hJ1 hgx h1 hall hE0 hg1 hg2 hgb hcI hcM hcP
 rintro n m ds h1 ⟨rfl,hn,hJ1,hgx,hall⟩
 refine Wc.le ?_ (Le.kn hall)
 refine zz ?_
 refine Wo_dec rfl rfl rfl rfl (A_lss rfl rfl) (fun hnp=>?_) (fun hnp=>?_)
 rotate_left
 ·have hn2:n=(capT t mj ((reelAt t r).ready+k)).toNat:=by omega
  subst hn2
  refine zz ?_
  refine⟨j+1,?_,rfl,hj',?_,hgx,rfl,rfl,rfl,rfl,rfl,rfl,rfl,rfl,trivial⟩
  ·simp only;omega
  ·rw[take_succ hj',List.flatMap_append]
   rw[show ([(reelAt t r).machines[j]].flatMap (machP t ((reelAt t r).ready+k)))=(List.range (capT t mj ((reelAt t r).ready+k)).toNat).map fun (n:Nat)=>((mj:Int),(reelAt t r).ready+(k:Int),(n:Int)) by simp[machP,hmj2]]
   exact hJ1
 have hn':n<(capT t mj ((reelAt t r).ready+k)).toNat:=by omega
 obtain⟨postN,hpN⟩:=map_range (f:=fun (n:Nat)=>((mj:Int),(reelAt t r).ready+(k:Int),(n:Int))) hn'
 have hsplit:placesL t r=((List.range k).flatMap (fun (k:Nat)=>dayP t r ((reelAt t r).ready+k))++(((reelAt t r).machines.take j).flatMap (machP t ((reelAt t r).ready+k))++(List.range n).map fun (n:Nat)=>((mj:Int),(reelAt t r).ready+(k:Int),(n:Int))))++((mj:Int),(reelAt t r).ready+(k:Int),(n:Int))::(postN++(postM++postD)):=by
  unfold placesL
  rw[hpD]
  show _++(dayP t r ((reelAt t r).ready+k)++postD)=_
  unfold dayP
  rw[hpM,show machP t ((reelAt t r).ready+k) (reelAt t r).machines[j]=(List.range (capT t mj ((reelAt t r).ready+k)).toNat).map fun (n:Nat)=>((mj:Int),(reelAt t r).ready+(k:Int),(n:Int)) by rw[hmj2];rfl,hpN]
  simp[dayP]
 refine zz ?_
 refine Wo_do rfl rfl rfl rfl (A_build rfl rfl) ?_
 refine Wo_yield rfl rfl rfl rfl rfl rfl rfl (hy _ _ _ _ hsplit hJ1) ?_
 rintro v h2 (⟨rfl,hJ2,hX⟩|⟨rfl,hK⟩)
 ·refine zz ?_
  refine⟨n+1,?_,rfl,hn',?_,hX.get hSx hgx,rfl,rfl,rfl,rfl,rfl,rfl,rfl,rfl,rfl,rfl,rfl,trivial⟩
  ·simp only;omega
  ·rw[List.range_succ,List.map_append]
   simpa using hJ2
 ·refine zz ?_
  exact Wc_ret (Lv_ret rfl (.inr hK))
end Go.Dw
