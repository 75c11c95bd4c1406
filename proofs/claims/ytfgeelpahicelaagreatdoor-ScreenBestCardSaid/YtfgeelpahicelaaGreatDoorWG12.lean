/- B3: contracts: what the closure of program remembers. -/
import Derived.Test.YtfgeelpahicelaaGreatDoorWG2
import Derived.Test.YtfgeelpahicelaaGreatDoorWG10
import Derived.Test.YtfgeelpahicelaaGreatDoorWG5
import Derived.Test.YtfgeelpahicelaaGreatDoorWG7
set_option linter.unusedVariables false
set_option linter.unusedSimpArgs false
namespace Go.Dw
open Go Go.Dx Go.Proofs
set_option maxRecDepth 100000
noncomputable def intK:KeyK Tryz.prog 3 Int where
 enc:=i64
 ks:=.basic (.int .i64)
 hks:=by kernel_rfl
 flat:=fun _=>rfl
 ok:=fun _=>rfl
 eq:=fun a b=>by
  show Instr.sameNow (.int .i64) (i64 a) (i64 b)=_
  have e:∀x y:Int,(x == y)=decide (x=y):=fun _ _=>rfl
  simp[Instr.sameNow,e]
 same:=fun a=>by simp[Instr.sameBits]
def ivZ (t:ScT)(z:Nat×ScS):Iv:=⟨z.2.minute,overS t z.2,z.2.worth⟩
theorem ivZ_ok {t:ScT}(hO:ScOk t){z:Nat×ScS}(h0:shownErr t z.2=0):(ivZ t z).Ok:=by
 obtain⟨h1,h2,h3,h4,h5⟩:=over_rng hO h0
 obtain⟨-,-,-,-,w1,w2⟩:=shown_ok h0
 exact⟨h5,(by show z.2.minute<overS t z.2;omega),w1⟩
def MemoOk (l:List Iv)(memo:List (Int×Value)):Prop:=∀k v,lkp k memo=some v->v=i64 (mostI l k)
theorem MemoOk.nil (l:List Iv):MemoOk l []:=fun k v h=>by simp[lkp] at h
theorem MemoOk.set {l:List Iv}{memo:List (Int×Value)}(h:MemoOk l memo)(n:Int):MemoOk l (setK n (i64 (mostI l n)) memo):=by
 intro k v hk
 rw[lkp_setK] at hk
 split at hk
 ·rename_i e
  cases hk
  rw[e]
 ·exact h k v hk
def bestF (l:List Iv)(n:Int)(k:Nat):Int:=maxBy (fun x:Iv=>x.e<=n) (fun x=>x.w+mostI l x.s) 0 (l.take k)
theorem bestF_succ {l:List Iv}{n:Int}{k:Nat}(hk:k<l.length):bestF l n (k+1)=if l[k].e<=n then max (bestF l n k) (l[k].w+mostI l l[k].s) else bestF l n k:=by
 unfold bestF maxBy
 rw[List.take_succ_eq_append_getElem hk,List.foldl_append]
 rfl
structure ProgI (h:Heap)(c1 c2 c3 bm bH:Nat)(t:ScT)(a:Option Addr)(cap:Nat)(zs:List (Nat×ScS))(memo:List (Int×Value)):Prop where
 g1:h.get c1=some (.cells [.map (some bm)] 226 false)
 g2:h.get c2=some (.cells [.slice a zs.length cap] 177 false)
 g3:h.get c3=some (.cells [.func (.func 157) ⟨[]⟩ ⟨[.pointer (some ⟨c1,0,none⟩),.pointer (some ⟨c2,0,none⟩),.pointer (some ⟨c3,0,none⟩)]⟩] 185 false)
 li:ListAt ptrZ h a zs
 sh:ShowsP h bH t zs
 mp:MapB intK h bm memo
 ok:MemoOk (zs.map (ivZ t)) memo
theorem ProgI.ne {h:Heap}{c1 c2 c3 bm bH:Nat}{t:ScT}{a:Option Addr}{cap:Nat}{zs:List (Nat×ScS)}{memo:List (Int×Value)}(p:ProgI h c1 c2 c3 bm bH t a cap zs memo){b:Nat}{vs:List Value}{el:TypeId}{op:Bool}(hg:h.get b=some (.cells vs el op)):b≠bm:=fun e=>by
 obtain⟨es,cl,h1,-⟩:=p.mp
 rw[e,h1] at hg
 cases hg
theorem ProgI.ex {h h':Heap}{c1 c2 c3 bm bH:Nat}{t:ScT}{a:Option Addr}{cap:Nat}{zs:List (Nat×ScS)}{memo memo':List (Int×Value)}(p:ProgI h c1 c2 c3 bm bH t a cap zs memo)(hE:Exb (fun b=>b=bm) h h')(hl:ListAt ptrZ h' a zs)(hm:MapB intK h' bm memo')(ho:MemoOk (zs.map (ivZ t)) memo'):ProgI h' c1 c2 c3 bm bH t a cap zs memo' :=
 ⟨hE.get (p.ne p.g1) p.g1,hE.get (p.ne p.g2) p.g2,hE.get (p.ne p.g3) p.g3,hl,fun z hz=>hE.get (p.ne (p.sh z hz)) (p.sh z hz),hm,ho⟩
theorem ptrs_ex {h h':Heap}{bm:Nat}{a:Option Addr}{zs:List (Nat×ScS)}(hl:ListAt ptrZ h a zs)(hE:Exb (fun b=>b=bm) h h')(hb:∀b o oa,a=some ⟨b,o,oa⟩->b≠bm):ListAt ptrZ h' a zs:=fun i hi=>by
 obtain⟨b,o,oa,e,hc⟩:=hl i hi
 obtain⟨x,hx⟩:=cellAt_some hc
 exact⟨b,o,oa,e,by rw[cellAt_get (hE.get (hb b o oa e) hx |>.trans hx.symm)];exact hc⟩
theorem mostI_le {l:List Iv}(hl:∀x∈l,x.Ok)(hw:∀x∈l,x.w<=1000000):∀(n:Nat),mostI l n<=1000000*(n:Int):=by
 intro n
 induction n using Nat.strongRecOn with
 | _ n ih =>
 rw[mostI_eq hl (by omega)]
 refine maxBy_le (by omega) fun x hx he=>?_
 have h1:=hl x hx
 have h2:=hw x hx
 have h3:=ih x.s.toNat (by have:=h1.s0;have:=h1.se;omega)
 rw[Int.toNat_of_nonneg h1.s0] at h3
 have:=h1.se
 omega
set_option maxHeartbeats 4000000 in
theorem progGo_sv {c1 c2 c3 bm bH cap:Nat}{t:ScT}{a:Option Addr}{zs:List (Nat×ScS)}(hO:ScOk t)(hz:∀z∈zs,shownErr t z.2=0)(hlen:zs.length<=1000000)(hb:∀b o oa,a=some ⟨b,o,oa⟩->b≠bm):∀(n:Nat),n<=200000->∀(h:Heap)(memo:List (Int×Value)),ProgI h c1 c2 c3 bm bH t a cap zs memo →
  Sv Tryz.prog 157 [i64 (n:Nat),.pointer (some ⟨c1,0,none⟩),.pointer (some ⟨c2,0,none⟩),.pointer (some ⟨c3,0,none⟩)] h (RetP fun v h'=>v=i64 (mostI (zs.map (ivZ t)) n)/\Exb (fun b=>b=bm) h h'/\∃memo',ProgI h' c1 c2 c3 bm bH t a cap zs memo'):=by
 have hl:∀x∈zs.map (ivZ t),x.Ok:=fun x hx=>by
  obtain⟨z,hz1,rfl⟩:=List.mem_map.1 hx
  exact ivZ_ok hO (hz z hz1)
 have hw:∀x∈zs.map (ivZ t),x.w<=1000000:=fun x hx=>by
  obtain⟨z,hz1,rfl⟩:=List.mem_map.1 hx
  obtain⟨-,-,-,-,w1,w2⟩:=shown_ok (hz z hz1)
  exact w2
 intro n
 induction n using Nat.strongRecOn with
 | _ n ih =>
 intro hn h memo hP
 have g1:=hP.g1
 have g2:=hP.g2
 have hmp:=hP.mp
 refine Sv_enter Tryz.func157 rfl (by rw[Tryz.ntmps157];rfl) ?_;show Wc Tryz.prog ⟨157,48,none⟩ _ _ _ _ _
 refine zy ?_
 cases hq:lkp (n:Int) memo with
 | some v =>
  obtain rfl:=hP.ok _ _ hq
  refine Wo_do rfl rfl rfl rfl (A_lookupOkV intK (k:=(n:Int)) (v:=i64 (mostI (zs.map (ivZ t)) n)) (q:=true) Und.h Zr.h rfl hmp rfl (by rw[hq];rfl) (by rw[hq];rfl)) ?_
  refine zy ?_
  exact Wc_ret (Lv_ret rfl ⟨rfl,Exb.refl _ _,memo,hP⟩)
 | none =>
  refine Wo_do rfl rfl rfl rfl (A_lookupOkV intK (k:=(n:Int)) (v:=i64 0) (q:=false) Und.h Zr.h rfl hmp rfl (by rw[hq];rfl) (by rw[hq];rfl)) ?_
  refine zy ?_
  refine Wc_loop (fun (k:Nat) m ds h'=>ds=[]/\k<=zs.length/\Exb (fun b=>b=bm) h h'/\(∃memo',ProgI h' c1 c2 c3 bm bH t a cap zs memo')/\AllK m [(0,i64 (n:Nat)),(1,.pointer (some ⟨c1,0,none⟩)),(3,.pointer (some ⟨c3,0,none⟩)),(6,i64 (bestF (zs.map (ivZ t)) n k)),(18,.slice a zs.length cap),(19,i64 zs.length),(20,i64 (k:Nat))]) (fun k=>zs.length-k) 0 ?_ ?_
  ·exact⟨rfl,Nat.zero_le _,Exb.refl _ _,⟨memo,hP⟩,rfl,rfl,rfl,rfl,rfl,rfl,rfl,trivial⟩
  rintro k m ds h1 ⟨rfl,hk,hE,⟨memo1,hP1⟩,hall⟩
  refine Wc.le ?_ (Le.kn hall)
  clear hall g1 g2 hmp
  have g1:=hP1.g1
  have g3:=hP1.g3
  refine zy ?_
  refine Wo_dec rfl rfl rfl rfl (A_lss rfl rfl) (fun hlt=>?_) (fun hlt=>?_)
  rotate_left
  ·have hk2:k=zs.length:=by omega
   have hbest:bestF (zs.map (ivZ t)) n k=mostI (zs.map (ivZ t)) n:=by
    rw[mostI_eq hl (by omega)]
    unfold bestF
    rw[hk2,<-List.length_map (f:=ivZ t),List.take_length]
   rw[hbest]
   refine zy ?_
   refine Wo_mapUpdateB intK (k:=(n:Int)) rfl Und.h rfl hP1.mp rfl rfl fun h2 o2 hU2 hm2=>?_
   refine zy ?_
   have hX:Exb (fun b=>b=bm) h1 h2:=(Exb.refl _ _).upd hU2 rfl
   exact Wc_ret (Lv_ret rfl ⟨rfl,hE.trans hX,_,hP1.ex hX (ptrs_ex hP1.li hX hb) hm2 (hP1.ok.set _)⟩)
  have hk':k<zs.length:=by omega
  obtain⟨b,o,oa,rfl,hcell⟩:=hP1.li k hk'
  have hzk:=hz _ (List.getElem_mem hk')
  have hsh:=hP1.sh _ (List.getElem_mem hk')
  have hsucc:=bestF_succ (l:=zs.map (ivZ t)) (n:=(n:Int)) (k:=k) (by rw[List.length_map];exact hk')
  rw[List.getElem_map] at hsucc
  have hxo:=ivZ_ok hO hzk
  have hov:=over_sv hsh hO hzk
  obtain⟨-,-,-,-,w1,w2⟩:=shown_ok hzk
  have hsh2:∀{h2:Heap},Exb (fun b=>b=bm) h1 h2->h2.get zs[k].1=h1.get zs[k].1:=fun {h2} hX=>(hX.get (hP1.ne hsh) hsh).trans hsh.symm
  generalize zs[k]=z at *
  obtain⟨s0,se,-⟩:=hxo
  replace s0:0<=z.2.minute:=s0
  replace se:z.2.minute<overS t z.2:=se
  have hmin:((z.2.minute.toNat:Nat):Int)=z.2.minute:=Int.toNat_of_nonneg s0
  have hml:=mostI_le hl hw z.2.minute.toNat
  have hm0:=mostI_nonneg hl s0
  rw[hmin] at hml
  replace hsucc:bestF (zs.map (ivZ t)) n (k+1)=if overS t z.2<=n then max (bestF (zs.map (ivZ t)) n k) (z.2.worth+mostI (zs.map (ivZ t)) z.2.minute) else bestF (zs.map (ivZ t)) n k:=hsucc
  unfold ShowAt shRow at hsh
  refine zy ?_
  refine Wo_do rfl rfl rfl rfl (A_ix Und.h Tsz.h rfl rfl) ?_
  refine zy ?_
  refine Wo_callV rfl rfl rfl rfl rfl Bod.h rfl rfl (hov) ?_
  refine zy ?_
  by_cases hle:overS t z.2<=n
  ·rw[if_pos hle] at hsucc
   have hrec:=ih z.2.minute.toNat (by omega) (by omega) h1 memo1 hP1
   rw[hmin] at hrec
   refine Wo_do rfl rfl rfl rfl (A_tt hle (A_leq rfl rfl)) ?_
   refine zy ?_
   refine Wc_draw hmix [0,0,2,6,14,30,0,0,128,384,896,1920,4032,8190,16383,32767] [0,1,2,3,4,5,6,7,8,9,10,11] (some 12) [([13,14],(some 15)),([],none)] (by kernel_rfl) (by kernel_rfl) ?_
   refine z_m ?_;refine z_m ?_;refine z_q ?_;refine z_f ?_;refine z_f ?_;refine z_l ?_;refine z_l ?_;refine z_m ?_;refine z_q ?_;refine z_f ?_;refine z_f ?_;refine z_l ?_
   refine Wp_eff [6,7,8,9,10,11] (by kernel_rfl) rfl (Stl_nil rfl) rfl nb rfl (W1_callR rfl rfl rfl rfl rfl Bod.h hrec (fun v h2 hR=>?_))
   obtain⟨rfl,hX,memo2,hP2⟩:=hR
   have hsh3:=(hsh2 hX).trans hsh
   refine Wp_pure rfl rfl rfl rfl rfl (fun _=>A_add rfl rfl (by omega) (by omega)) ?_;refine z_x ?_
   refine Wp_eff [0,1,2,3,4,5,6,7,8,9,10,11,12,13,14] (by kernel_rfl) rfl (by refine t_l 5 ?_;refine t_f 4 ?_;refine t_f 3 ?_;refine t_q 2 ?_;refine t_m 1 ?_;refine t_m 0 ?_;exact Stl_nil rfl) rfl nb rfl (W1_op rfl rfl (A_assign rfl) ?_)
   refine Wp_end (Stl_nil rfl) nb' ?_
   refine zy ?_
   exact⟨k+1,(by show zs.length-(k+1)<zs.length-k;omega),rfl,hk',hE.trans hX,⟨memo2,hP2⟩,rfl,rfl,rfl,(by rw[hsucc];rfl),rfl,rfl,rfl,trivial⟩
  ·rw[if_neg hle] at hsucc
   refine Wo_do rfl rfl rfl rfl (A_ff hle (A_leq rfl rfl)) ?_
   refine zy ?_
   exact⟨k+1,(by show zs.length-(k+1)<zs.length-k;omega),rfl,hk',hE,⟨memo1,hP1⟩,rfl,rfl,rfl,(by rw[hsucc];rfl),rfl,rfl,rfl,trivial⟩
theorem program_sv {bH cap:Nat}{t:ScT}{a:Option Addr}{zs:List (Nat×ScS)}{h:Heap}(hl:ListAt ptrZ h a zs)(hs:ShowsP h bH t zs):Sv Tryz.prog 109 [.slice a zs.length cap] h (RetP fun v h'=>∃c1 c2 c3 bm,v=.func (.func 157) ⟨[]⟩ ⟨[.pointer (some ⟨c1,0,none⟩),.pointer (some ⟨c2,0,none⟩),.pointer (some ⟨c3,0,none⟩)]⟩/\Ext h h'/\(h.nx<=bm/\h.nx<=c1/\h.nx<=c2/\h.nx<=c3)/\ProgI h' c1 c2 c3 bm bH t a cap zs []):=by
 refine Sv_wf fun hw=>?_
 refine Sv_enter Tryz.func109 rfl (by rw[Tryz.ntmps109];rfl) ?_;show Wc Tryz.prog ⟨109,8,none⟩ _ _ _ _ _
 refine zy ?_
 refine Wo_box rfl rfl rfl fun h1 hE1 hW1 hg1 hn1=>?_
 refine zy ?_
 refine Wo_mkMap rfl rfl fun h2 hE2 hW2 hg2 hn2=>?_
 refine zy ?_
 refine Wo_allocStore rfl rfl Zr.h Tsz.h rfl (fun _=>rfl) rfl rfl rfl fun h3 hE3 hW3 hg3 hn3=>?_
 refine zy ?_
 refine Wo_alloc rfl rfl Zr.h fun h4 hE4 hW4 hg4 hn4=>?_
 have lt1:=hW3 _ _ (hE3.get (hE2.get hg1))
 have lt2:=hW3 _ _ (hE3.get hg2)
 have lt3:=hW3 _ _ hg3
 refine zy ?_
 refine Wo_store rfl Tsz.h rfl rfl hg4 rfl rfl rfl fun h5 hU=>?_
 have k1:=hU.get (show h.nx≠h3.nx by omega) (hE4.get (hE3.get (hE2.get hg1)))
 have k2:=hU.get (show h1.nx≠h3.nx by omega) (hE4.get (hE3.get hg2))
 have k3:=hU.get (show h2.nx≠h3.nx by omega) (hE4.get hg3)
 have hE:=hU.ext (((hE1.trans hE2).trans hE3).trans hE4) hw (by omega)
 have k4:=hU.at'
 refine zy ?_
 exact Wc_ret (Lv_ret rfl ⟨h2.nx,h.nx,h3.nx,h1.nx,rfl,hE,⟨by omega,by omega,by omega,by omega⟩,⟨k3,k1,k4,hl.ext hE,ShowsP.ext hs hE,MapB.new intK k2,MemoOk.nil _⟩⟩)
end Go.Dw
/- B4: contracts: slices.Clone of pointers to shows. -/
namespace Go.Dw
open Go Go.Dx Go.Proofs
set_option maxRecDepth 100000
theorem run_eq_nilSl {P:Program}{t el:TypeId}(hu:P.underlying t=some (.slice el))(n:Nat)(w:World):(Op.equalIn (n+1) t (.slice none 0 0) (.slice none 0 0)).run P w=.ok true w:=by
 simp only[Op.equalIn,Sem.run_bind,run_underlying hu,Result.andThen_ok,Sem.run_pure]
 rfl
section
variable {P:Program}{m:Mem}{h:Heap}{d:Option Tmp}{ty:TypeId}{pos:String}{af:Array Edge}{gu:Option (Nat×Bool)}{t tz el:TypeId}{x y:Operand}
theorem A_eqNilN (hu:P.underlying t=some (.slice el))(hx:opk h m x=some (.slice none 0 0))(hy:opk h m y=some (.slice none 0 0)):Aop P ⟨d,.binOp .eql t x y tz,ty,pos,af,gu⟩ m h (.bool true) h :=
 A_bin hx hy rfl rfl rfl fun w=>by
  have h2:(eqGuard .eql t x y (.slice none 0 0) (.slice none 0 0)).run P w=.ok () w:=rfl
  simp only[Sem.run_bind,h2,Result.andThen_ok]
  show (do pure (.bool (<-Op.equalIn (9999+1) t (.slice none 0 0) (.slice none 0 0))):Sem Value).run P w=_
  simp only[Sem.run_bind,run_eq_nilSl hu,Result.andThen_ok,Sem.run_pure]
theorem A_eqNilS {a:Addr}{n c:Nat}(hu:P.underlying t=some (.slice el))(hx:opk h m x=some (.slice (some a) n c))(hy:opk h m y=some (.slice none 0 0)):Aop P ⟨d,.binOp .eql t x y tz,ty,pos,af,gu⟩ m h (.bool false) h :=
 Aop_of fun e hs=>by
  show pBin P _ h e .eql t x y=_
  unfold pBin
  simp only[opk_opv hs hx,opk_opv hs hy]
  have:abinNil P .eql t (.slice (some a) n c) (.slice none 0 0)=some (.bool false):=by
   unfold abinNil
   rw[hu]
   rfl
  simp only[this]
end
theorem cloneA_sv {a:Option Addr}{cap:Nat}{l:List (Nat×ScS)}{h:Heap}(hs:SrcAt ptrZ h a l)(hn:a=none->l.length=0/\cap=0)(hlen:l.length<=1000000) :
  Sv Tryz.prog 111 [.slice a l.length cap] h (RetP fun v' h'=>FreshSl h h' v' 152 1 (l.map ptrZ) l.length/\Ext h h'):=by
 refine Sv_wf fun hw=>?_
 have h1:allOne (l.map ptrZ)=true:=by
  unfold allOne
  rw[List.all_map]
  exact List.all_eq_true.2 fun _ _=>rfl
 refine Sv_enter Tryz.func111 rfl (by rw[Tryz.ntmps111];rfl) ?_;show Wc Tryz.prog ⟨111,8,none⟩ _ _ _ _ _
 refine zy ?_
 cases a with
 | none =>
  obtain⟨e1,rfl⟩:=hn rfl
  rw[e1,List.eq_nil_of_length_eq_zero e1]
  refine Wo_do rfl rfl rfl rfl (A_eqNilN Und.h rfl rfl) ?_
  refine zy ?_
  exact Wc_ret (Lv_ret rfl ⟨FreshSl.nil _ _ _ _,Ext.refl _⟩)
 | some a =>
  refine Wo_do rfl rfl rfl rfl (A_eqNilS Und.h rfl rfl) ?_
  refine zy ?_
  refine Wo_bs rfl rfl Und.h Tsz.h Zr.h rfl rfl rfl rfl rfl fun h1' hE1 hW1 hg1 hx1=>?_
  refine zy ?_
  refine Wo_appendF (k:=l.length) (n:=0) (l:=l.map ptrZ) hw hE1 rfl rfl rfl rfl rfl Und.h inferInstance rfl rfl (FreshSl.lit (n:=0) (sz:=1) (cs:=[]) hg1 rfl (Nat.le_refl _)) ((hs.ext hE1).src (dd:=.slice 152) Und.h (by intro k;simp)) (by rw[List.length_map];omega) h1 (by omega) (by omega) fun v2 h2 hF2 hE2 _ _ _=>?_
  refine zy ?_
  refine Wc_ret (Lv_ret rfl ⟨?_,hE2⟩)
  rw[List.nil_append,Nat.zero_add] at hF2
  exact hF2
end Go.Dw
/- B5: contracts: the shows of a venue that may be, with their indices. -/
namespace Go.Dw
open Go Go.Dx Go.Proofs
set_option maxRecDepth 100000
def canS (t:ScT)(v:Int)(l:List ScS):List (ScS×Nat):=l.zipIdx.filter fun c=>decide (c.1.venue=v/\whyS t c.1=0)
def candErr (t:ScT)(v:Int)(l:List ScS):Int:=if errSc t≠0 then errSc t else if v<0\/(t.venues.length:Int)-1<v then 4 else allErr t l
theorem canS_succ {t:ScT}{v:Int}{l:List ScS}{k:Nat}(hk:k<l.length):canS t v (l.take (k+1))=canS t v (l.take k)++if l[k].venue=v/\whyS t l[k]=0 then [(l[k],k)] else []:=by
 have htk:l.take (k+1)=l.take k++[l[k]]:=by rw[List.take_add_one,List.getElem?_eq_getElem hk];rfl
 have hlk:(l.take k).length=k:=by rw[List.length_take];omega
 unfold canS
 rw[htk,List.zipIdx_append,List.filter_append,hlk,Nat.zero_add]
 congr 1
 by_cases c:l[k].venue=v/\whyS t l[k]=0
 ·rw[if_pos c]
  simp[List.zipIdx,c]
 ·rw[if_neg c]
  simp only[List.zipIdx,List.filter_cons,decide_eq_false c,List.filter_nil]
  rfl
theorem canS_len {t:ScT}{v:Int}{l:List ScS}:(canS t v l).length<=l.length:=by
 have:=List.length_filter_le (fun c:ScS×Nat=>decide (c.1.venue=v/\whyS t c.1=0)) l.zipIdx
 rw[List.length_zipIdx] at this
 exact this
theorem canS_mem {t:ScT}{v:Int}{l:List ScS}{c:ScS×Nat}(hc:c∈canS t v l):c.2<l.length/\l[c.2]?=some c.1/\c.1.venue=v/\whyS t c.1=0:=by
 obtain⟨h1,h2⟩:=List.mem_filter.1 hc
 have h3:=List.mem_zipIdx_iff_getElem?.1 h1
 have h4:=of_decide_eq_true h2
 obtain⟨h5,-⟩:=List.getElem?_eq_some_iff.1 h3
 exact⟨h5,h3,h4⟩
def CanR (t:ScT)(v:Int)(l:List ScS)(h:Heap)(r:Value)(h':Heap):Prop:=Ext h h'/\((¬candErr t v l=0/\r=.tuple ⟨[.slice none 0 0,.slice none 0 0,i64 (candErr t v l)]⟩)\/(candErr t v l=0/\ScOk t/\allErr t l=0/\∃a cap ai ci bH,∃ws:List ((Nat×ScS)×Nat),r=.tuple ⟨[.slice a (ws.map Prod.fst).length cap,.slice ai (ws.map Prod.snd).length ci,i64 0]⟩/\ws.map (fun w=>(w.1.2,w.2))=canS t v l/\LeftAt ptrZ h' a cap (ws.map Prod.fst)/\IntsAt h' ai (ws.map fun w=>(w.2:Int))/\ShowsP h' bH t (ws.map Prod.fst)/\HouseAt h' bH t/\(ws.map fun w=>w.1.1).Nodup/\ws.length<=40/\(∀w∈ws,shownErr t w.1.2=0)/\∀b o sp,a=some ⟨b,o,sp⟩->h.nx<=b))
set_option maxHeartbeats 4000000 in
theorem candidates_sv {tc:List Value}{t:ScT}{v:Int}{l:List ScS}{al:Option Addr}{cl:Nat}{h:Heap}(ht:ScTAt h tc t)(hT:t.Fit)(hv:I64 v)(hl:RowsAt 6 ScSR h al l)(hlF:∀s∈l,s.Fit)(hL:Len l):Sv Tryz.prog 108 [.agg ⟨tc⟩,i64 v,.slice al l.length cl] h (RetP (CanR t v l h)):=by
 have ht0:=ht
 obtain⟨xl,cxl,at',ct,a1,c1,a2,c2,a3,c3,a4,c4,a5,c5,a6,c6,rfl,-⟩:=ht
 refine Sv_wf fun hw=>?_
 refine Sv_enter Tryz.func108 rfl (by rw[Tryz.ntmps108];rfl) ?_;show Wc Tryz.prog ⟨108,68,none⟩ _ _ _ _ _
 refine zy ?_
 refine Wo_box rfl rfl rfl fun h1 hE1 hW1 hg1 hn1=>?_
 generalize h.nx=b1 at *
 refine zy ?_
 refine Wo_callr rfl rfl rfl rfl rfl Bod.h rfl rfl (open_sv (ht0.ext hE1) hT) ?_
 rintro v2 h2 ⟨hE2,⟨he,rfl⟩|⟨he,bH,rfl,hH⟩⟩
 ·have e:candErr t v l=errSc t:=by unfold candErr;rw[if_pos he]
  refine zy ?_
  refine Wo_dec rfl rfl rfl rfl (A_neq rfl rfl) (fun h3=>?_) (fun h3=>?_)
  ·refine zy ?_
   exact Wc_ret (Lv_ret rfl ⟨hE1.trans hE2,.inl ⟨by rw[e];exact he,by rw[e];rfl⟩⟩)
  ·exact absurd (Decidable.not_not.1 h3) he
 have hO:=sc_ok he
 have hg12:=hE2.get hg1
 replace hE2:=hE1.trans hE2
 have hvl:t.venues.length<1000000:=Nat.lt_of_le_of_lt hO.venues1.2 (by decide)
 clear hg1 hn1 hW1 hE1
 refine zy ?_
 refine Wo_dec rfl rfl rfl rfl (A_neq rfl rfl) (fun h3=>?_) (fun h3=>?_)
 ·exact absurd rfl h3
 clear h3
 refine zy ?_
 refine Wo_callP rfl rfl rfl rfl rfl Bod.h rfl rfl (out_sv _ _ _ _) (fun h4=>?_) (fun h4=>?_)
 ·replace h4:=of_decide_eq_true h4
  have e:candErr t v l=4:=by unfold candErr;rw[if_neg (fun q=>q he),if_pos h4]
  refine zy ?_
  exact Wc_ret (Lv_ret rfl ⟨hE2,.inl ⟨by rw[e];decide,by rw[e];rfl⟩⟩)
 replace h4:=of_decide_eq_false h4
 have e:candErr t v l=allErr t l:=by unfold candErr;rw[if_neg (fun q=>q he),if_neg h4]
 refine zy ?_
 refine Wo_callr rfl rfl rfl rfl rfl Bod.h rfl rfl (all_sv hH hO (RowsAt.ext (R:=ScSR) (fun x _=>x) hl hE2) hlF hL) ?_
 rintro v3 h3 ⟨hE3,⟨he2,rfl⟩|⟨he2,va,zs,rfl,hzs,hO3,hnd⟩⟩
 ·refine zy ?_
  refine Wo_dec rfl rfl rfl rfl (A_neq rfl rfl) (fun h5=>?_) (fun h5=>?_)
  ·refine zy ?_
   exact Wc_ret (Lv_ret rfl ⟨hE2.trans hE3,.inl ⟨by rw[e];exact he2,by rw[e];rfl⟩⟩)
  ·exact absurd (Decidable.not_not.1 h5) he2
 obtain⟨hl40,hsh⟩:=allErr_ok he2
 replace hH:=hH.ext hE3
 have hE:=hE2.trans hE3
 have hSP:ShowsP h3 bH t zs:=hO3.p2
 obtain⟨aZ,rfl,-,hZ⟩:=FreshSl.list (enc:=ptrZ) (show FreshSl h2 h3 va 152 1 _ _ from hO3.p1)
 clear hO3
 refine zy ?_
 refine Wo_dec rfl rfl rfl rfl (A_neq rfl rfl) (fun h5=>?_) (fun h5=>?_)
 ·exact absurd rfl h5
 clear h5
 refine Wo_wf fun hw3=>?_
 have hzl:zs.length=l.length:=by rw[<-hzs,List.length_map]
 refine zy ?_
 refine Wc_loop (fun (s:Nat×Value×Value×List ((Nat×ScS)×Nat)) m ds h'=>ds=[]/\s.1<=zs.length/\Ext h3 h'/\Own h3 h' [slI h3 s.2.1 152 1 ((s.2.2.2.map Prod.fst).map ptrZ) s.2.2.2.length,slI h3 s.2.2.1 3 1 ((s.2.2.2.map fun w=>(w.2:Int)).map i64) s.2.2.2.length]/\s.2.2.2.map (fun w=>(w.1.2,w.2))=canS t v (l.take s.1)/\(s.2.2.2.map Prod.fst).Sublist (zs.take s.1) ∧
   AllK m [(1,i64 v),(6,s.2.1),(7,s.2.2.1),(38,.slice aZ zs.length zs.length),(39,i64 zs.length),(40,i64 s.1)]) (fun s=>zs.length-s.1) (0,.slice none 0 0,.slice none 0 0,[]) ?_ ?_
 ·exact⟨rfl,Nat.zero_le _,Ext.refl _,((Own.nil h3 h3).nilSl 3 1).nilSl 152 1,rfl,List.nil_sublist _,rfl,rfl,rfl,rfl,rfl,rfl,trivial⟩
 rintro⟨k,vc,vi,ws⟩ m ds h4' ⟨rfl,hk,hE4,hO4,hws,hsub,hall⟩
 simp only at hk hO4 hws hsub hall
 refine Wc_wf fun hw4=>?_
 have hwl:ws.length<=l.length:=by
  have h6:=congrArg List.length hws
  rw[List.length_map] at h6
  have h7:=canS_len (t:=t) (v:=v) (l:=l.take k)
  rw[List.length_take] at h7
  omega
 refine Wc.le ?_ (Le.kn hall)
 refine zy ?_
 refine Wo_dec rfl rfl rfl rfl (A_lss rfl rfl) (fun h5=>?_) (fun h5=>?_)
 rotate_left
 ·have hk2:k=zs.length:=by omega
  subst hk2
  rw[List.take_length] at hsub
  rw[hzl,List.take_length] at hws
  obtain⟨a,e1,hLa,hab⟩:=FreshSl.leftAt (enc:=ptrZ) (show FreshSl h3 h4' vc 152 1 _ _ from hO4.p1)
  obtain⟨ai,e2,-,hIn⟩:=FreshSl.list (enc:=i64) (show FreshSl h3 h4' vi 3 1 _ _ from hO4.p2)
  subst e1
  subst e2
  have hzm:∀z∈ws.map Prod.fst,z∈zs:=fun z hz=>hsub.subset hz
  refine zy ?_
  refine Wc_ret (Lv_ret rfl ⟨hE.trans hE4,.inr ⟨by rw[e];exact he2,hO,he2,a,_,ai,(ws.map fun w=>(w.2:Int)).length,bH,ws,?_,hws,hLa,hIn,fun z hz=>hE4.get (hSP z (hzm z hz)),hH.ext hE4,?_,by omega,fun w hw=>hsh _ ?_,fun b o sp e=>Nat.le_trans hE.2.1 (hab b o sp e)⟩⟩)
  ·rw[List.length_map,List.length_map,List.length_map]
   rfl
  ·have h8:(ws.map fun w=>w.1.1)=(ws.map Prod.fst).map Prod.fst:=by rw[List.map_map];rfl
   rw[h8]
   exact (hsub.map Prod.fst).nodup hnd
  ·rw[<-hzs]
   exact List.mem_map_of_mem (hzm _ (List.mem_map_of_mem hw))
 have hk':k<zs.length:=by simpa using h5
 have hkl:k<l.length:=by omega
 obtain⟨b,o,oa,rfl,hc⟩:=hZ k hk'
 have hzm:=List.getElem_mem hk'
 have hx0:shownErr t zs[k].2=0:=hsh _ (by rw[<-hzs];exact List.mem_map_of_mem hzm)
 have hsx:l[k]=zs[k].2:=by subst hzs;rw[List.getElem_map]
 have hstep:=canS_succ (t:=t) (v:=v) hkl
 rw[hsx] at hstep
 have hsub1:(ws.map Prod.fst).Sublist (zs.take (k+1)):=hsub.trans (List.take_sublist_take_left (Nat.le_succ k))
 have hsub2:(ws.map Prod.fst++[zs[k]]).Sublist (zs.take (k+1)):=by
  rw[List.take_add_one,List.getElem?_eq_getElem hk']
  exact hsub.append (List.Sublist.refl _)
 replace hc:=hE4.cell hc
 have hSx:=hSP _ hzm
 generalize zs[k]=x at *
 have hSx4:=hSx.ext hE4
 have hwhy:=why_sv hSx4 (hH.ext hE4) hO hx0
 have hSx4':=hSx4
 unfold ShowAt shRow at hSx4'
 refine zy ?_
 refine Wo_do rfl rfl rfl rfl (A_ix Und.h Tsz.h rfl rfl) ?_
 refine zy ?_
 by_cases e1:x.2.venue=v
 rotate_left
 ·rw[if_neg (fun q=>e1 q.1),List.append_nil] at hstep
  refine Wo_do rfl rfl rfl rfl (A_ff e1 (A_eql rfl rfl)) ?_
  refine zy ?_
  exact⟨(k+1,vc,vi,ws),(by show zs.length-(k+1)<zs.length-k;omega),rfl,hk',hE4,hO4,(by simp only[hstep];exact hws),hsub1,rfl,rfl,rfl,rfl,rfl,rfl,trivial⟩
 refine Wo_do rfl rfl rfl rfl (A_tt e1 (A_eql rfl rfl)) ?_
 refine zy ?_
 refine Wo_callE rfl rfl rfl rfl rfl Bod.h rfl rfl (hwhy) fun h6 hE6=>?_
 by_cases e2:whyS t x.2=0
 rotate_left
 ·rw[if_neg (fun q=>e2 q.2),List.append_nil] at hstep
  refine Wo_do rfl rfl rfl rfl (A_ff e2 (A_eql rfl rfl)) ?_
  refine zy ?_
  exact⟨(k+1,vc,vi,ws),(by show zs.length-(k+1)<zs.length-k;omega),rfl,hk',hE4.trans hE6,hO4.ext hE6,(by simp only[hstep];exact hws),hsub1,rfl,rfl,rfl,rfl,rfl,rfl,trivial⟩
 rw[if_pos ⟨e1,e2⟩] at hstep
 refine Wo_do rfl rfl rfl rfl (A_tt e2 (A_eql rfl rfl)) ?_
 replace hO4:=hO4.ext hE6
 replace hE4:=hE4.trans hE6
 have hwl':(ws++[(x,k)]).length=ws.length+1:=by simp
 have hwm:((ws++[(x,k)]).map Prod.fst).map ptrZ=(ws.map Prod.fst).map ptrZ++[ptrZ x]:=by simp
 have hwi:((ws++[(x,k)]).map fun w=>(w.2:Int)).map i64=(ws.map fun w=>(w.2:Int)).map i64++[i64 (k:Int)]:=by simp
 refine zy ?_
 refine Wo_bs rfl rfl Und.h Tsz.h Zr.h rfl rfl rfl rfl rfl fun h7 hE7 hW7 hg7 hn7=>?_
 refine Wo_appendO (k:=1) (l:=[ptrZ x]) hw3 (hE4.trans hE7) rfl rfl rfl rfl rfl Und.h inferInstance rfl rfl (hO4.ext hE7) (asrc_row Und.h (by intro k;simp) (rowAt_cells hg7 rfl)) rfl rfl (by omega) (by omega) fun v8 h8 hW8 hO8 hE8=>?_
 rw[<-hwl',<-hwm] at hO8
 refine zy ?_
 refine Wo_bs rfl rfl Und.h Tsz.h Zr.h rfl rfl rfl rfl rfl fun h9 hE9 hW9 hg9 hn9=>?_
 refine Wo_appendO (k:=1) (l:=[i64 (k:Int)]) hw3 (hE8.trans hE9) rfl rfl rfl rfl rfl Und.h inferInstance rfl rfl ((hO8.ext hE9).up2) (asrc_row Und.h (by intro k;simp) (rowAt_cells hg9 rfl)) rfl rfl (by omega) (by omega) fun v10 h10 hW10 hO10 hE10=>?_
 rw[<-hwl',<-hwi] at hO10
 refine zy ?_
 refine⟨(k+1,v8,v10,ws++[(x,k)]),(by show zs.length-(k+1)<zs.length-k;omega),rfl,hk',hE10,hO10.up2,?_,?_,rfl,rfl,rfl,rfl,rfl,rfl,trivial⟩
 ·simp only[hstep,List.map_append,hws]
  rfl
 ·simp only[List.map_append]
  exact hsub2
end Go.Dw
/- B6: contracts: slices.DeleteFunc over pointers to shows, in a block of the function's own. -/
namespace Go.Dw
open Go Go.Dx Go.Proofs
set_option maxRecDepth 100000
theorem firstI_none {α:Type}{p:α->Bool}{l:List α}(h:firstI p l = -1):∀x∈l,p x=false:=by
 unfold firstI at h
 cases hq:l.findIdx? p with
 | none=>exact List.findIdx?_eq_none_iff.1 hq
 | some k=>rw[hq] at h;simp only at h;omega
theorem firstI_some {α:Type}{p:α->Bool}{l:List α}(h:firstI p l ≠ -1):∃k,∃hk:k<l.length,firstI p l=(k:Int)/\p l[k]=true/\∀j (hj:j<l.length),j<k->p l[j]=false:=by
 unfold firstI at h ⊢
 cases hq:l.findIdx? p with
 | none=>rw[hq] at h;exact absurd rfl h
 | some k =>
  obtain⟨h1,h2,h3⟩:=List.findIdx?_eq_some_iff_getElem.1 hq
  exact⟨k,h1,rfl,h2,fun j hj hlt=>by simpa using h3 j hlt⟩
def keptF {α:Type}(p:α->Bool)(l:List α)(j:Nat):List α:=(l.take j).filter fun x=>!p x
theorem keptF_succ {α:Type}{p:α->Bool}{l:List α}{j:Nat}(hj:j<l.length):keptF p l (j+1)=if p l[j]=true then keptF p l j else keptF p l j++[l[j]]:=by
 have htk:l.take (j+1)=l.take j++[l[j]]:=by rw[List.take_add_one,List.getElem?_eq_getElem hj];rfl
 unfold keptF
 rw[htk,List.filter_append]
 cases hq:p l[j] with
 | true=>simp[hq]
 | false=>simp[hq]
theorem keptF_first {α:Type}{p:α->Bool}{l:List α}{k:Nat}(hk:k<=l.length)(h:∀j (hj:j<l.length),j<k->p l[j]=false):keptF p l k=l.take k:=by
 unfold keptF
 rw[List.filter_eq_self]
 intro x hx
 obtain⟨j,hj,rfl⟩:=List.getElem_of_mem hx
 rw[List.length_take] at hj
 rw[List.getElem_take,h j (by omega) (by omega)]
 rfl
theorem repNil_one (n:Nat):allOne (rep n [Value.pointer none])=true:=by
 induction n with
 | zero=>rfl
 | succ n ih =>
  rw[rep_succ]
  show allOne (Value.pointer none::rep n [Value.pointer none])=true
  simp only[allOne,List.all_cons] at ih ⊢
  rw[ih];rfl
def DelR (b:Nat)(sp:Option Nat)(el:TypeId)(op:Bool)(l:List (Nat×ScS))(h:Heap)(r:Value)(h':Heap):Prop:=∃cap vs,r=.slice (some ⟨b,0,sp⟩) l.length cap/\l.length<=cap/\Exb (fun c=>c=b) h h'/\h'.get b=some (.cells (l.map ptrZ++vs) el op)
set_option maxHeartbeats 4000000 in
theorem deleteZ_sv {b:Nat}{sp:Option Nat}{el:TypeId}{op:Bool}{l:List (Nat×ScS)}{h:Heap}{g:FuncId}{first capv:List Value}{p:Nat×ScS->Bool}(hg:h.get b=some (.cells (l.map ptrZ) el op))(hsp:sp=none\/sp=some 1)(hbd:bodied Tryz.prog g=true)
  (hp:∀h1,Exb (fun c=>c=b) h h1->∀x∈l,Sv Tryz.prog g (first++([ptrZ x]++capv)) h1 (RetP fun v h'=>v=.bool (p x)/\h'=h1)) (hlen:l.length<=1000000) :
  Sv Tryz.prog 110 [.slice (some ⟨b,0,sp⟩) l.length l.length,.func (.func g) ⟨first⟩ ⟨capv⟩] h (RetP (DelR b sp el op (l.filter fun x=>!p x) h)):=by
 have hI:ListAt ptrZ h (some ⟨b,0,sp⟩) l:=fun i hi=>⟨b,0,sp,rfl,cellAt_cells hg (by rw[nth_eq,Nat.zero_add,Nat.mul_one,List.getElem?_map,List.getElem?_eq_getElem hi];rfl)⟩
 refine Sv_enter Tryz.func110 rfl (by rw[Tryz.ntmps110];rfl) ?_;show Wc Tryz.prog ⟨110,42,none⟩ _ _ _ _ _
 refine zy ?_
 refine Wo_callE rfl rfl rfl rfl rfl Bod.h rfl rfl (indexFuncZ_sv (p:=p) hI hbd (fun h1 hE x hx=>Sv.grows (hp h1 (Exb.of hE) x hx)) (by omega)) fun h1 hE1=>?_
 have hg1:=hE1.get hg
 have hX1:Exb (fun c=>c=b) h h1:=Exb.of hE1
 clear hI
 by_cases hf:firstI p l = -1
 ·have hno:=firstI_none hf
  have hfl:(l.filter fun x=>!p x)=l:=List.filter_eq_self.2 fun x hx=>by rw[hno x hx];rfl
  rw[hf]
  refine zy ?_
  refine Wo_do rfl rfl rfl rfl (A_tt rfl (A_eql rfl rfl)) ?_
  refine zy ?_
  exact Wc_ret (Lv_ret rfl ⟨l.length,[],by rw[hfl];rfl,by rw[hfl];exact Nat.le_refl _,hX1,by rw[hfl,List.append_nil];exact hg1⟩)
 obtain⟨k0,hk0,ef,hp0,hno⟩:=firstI_some hf
 rw[ef]
 have hne:¬((k0:Int) = -1):=by omega
 have hkf0:keptF p l (k0+1)=l.take k0:=by rw[keptF_succ hk0,if_pos hp0,keptF_first (by omega) hno]
 have hkl0:(keptF p l (k0+1)).length=k0:=by rw[hkf0,List.length_take];omega
 refine zy ?_
 refine Wo_do rfl rfl rfl rfl (A_ff hne (A_eql rfl rfl)) ?_
 refine zy ?_
 refine Wc_loop (fun (j:Nat) m ds h'=>ds=[]/\j<=l.length/\Exb (fun c=>c=b) h h'/\(∃cs:List Value,h'.get b=some (.cells cs el op)/\cs.length=l.length/\cs.take (keptF p l j).length=(keptF p l j).map ptrZ/\cs.drop j=(l.map ptrZ).drop j)/\(keptF p l j).length<j ∧
   AllK m [(0,.slice (some ⟨b,0,sp⟩) l.length l.length),(1,.func (.func g) ⟨first⟩ ⟨capv⟩),(5,i64 ((keptF p l j).length:Nat)),(6,i64 (j:Nat))]) (fun j=>l.length-j) (k0+1) ?_ ?_
 ·refine⟨rfl,hk0,hX1,⟨_,hg1,by rw[List.length_map],?_,rfl⟩,by omega,rfl,rfl,by rw[hkl0];rfl,rfl,trivial⟩
  rw[hkl0,hkf0,List.map_take]
 rintro j m ds h2 ⟨rfl,hj,hX2,⟨cs,hg2,hcl,hct,hcd⟩,hlt,hall⟩
 refine Wc.le ?_ (Le.kn hall)
 refine zy ?_
 refine Wo_dec rfl rfl rfl rfl (A_lss rfl rfl) (fun hjl=>?_) (fun hjl=>?_)
 ·have hj':j<l.length:=by omega
  have hlc:=keptF_succ (p:=p) hj'
  have hcell:cs[j]?=some (ptrZ l[j]):=by
   have e1:(cs.drop j)[0]?=((l.map ptrZ).drop j)[0]?:=by rw[hcd]
   rw[List.getElem?_drop,List.getElem?_drop,Nat.add_zero,List.getElem?_map,List.getElem?_eq_getElem hj'] at e1
   exact e1
  have hcell2:cellAt h2 b (0+j*1)=some (ptrZ l[j]):=cellAt_cells hg2 (by rw[nth_eq,Nat.zero_add,Nat.mul_one,hcell])
  have hpx:=hp h2 hX2 _ (List.getElem_mem hj')
  have hdr:(l.map ptrZ).drop (j+1)=cs.drop (j+1):=by
   have e1:(cs.drop j).drop 1=((l.map ptrZ).drop j).drop 1:=by rw[hcd]
   rw[List.drop_drop,List.drop_drop] at e1
   exact e1.symm
  generalize l[j]=x at *
  generalize hkq:(keptF p l j).length=q at *
  refine zy ?_
  refine Wo_do rfl rfl rfl rfl (A_ix Und.h Tsz.h rfl rfl) ?_
  refine zy ?_
  cases hb:p x with
  | true =>
   rw[hb] at hpx
   refine Wo_callV rfl rfl rfl rfl rfl hbd rfl rfl hpx ?_
   rw[if_pos hb] at hlc
   refine zy ?_
   exact⟨j+1,(by show l.length-(j+1)<l.length-j;omega),rfl,hj',hX2,⟨cs,hg2,hcl,by rw[hlc,hkq];exact hct,hdr.symm⟩,(by rw[hlc,hkq];omega),rfl,rfl,(by rw[hlc,hkq];rfl),rfl,trivial⟩
  | false =>
   rw[hb] at hpx
   refine Wo_callV rfl rfl rfl rfl rfl hbd rfl rfl hpx ?_
   rw[if_neg (by rw[hb];simp)] at hlc
   have hql:(keptF p l (j+1)).length=q+1:=by rw[hlc,List.length_append,hkq];rfl
   have hqlt:q<l.length:=by omega
   refine zy ?_
   refine Wo_do rfl rfl rfl rfl (A_ix Und.h Tsz.h rfl rfl) ?_
   refine zy ?_
   refine Wo_store rfl Tsz.h rfl rfl hg2 rfl rfl (lay_one (by rw[hcl,Nat.zero_add,Nat.mul_one];exact hqlt)) fun h4 hU=>?_
   refine zy ?_
   refine⟨j+1,(by show l.length-(j+1)<l.length-j;omega),rfl,hj',hX2.upd hU rfl,⟨_,hU.at',by rw[List.length_set];exact hcl,?_,?_⟩,by omega,rfl,rfl,(by rw[hql];rfl),rfl,trivial⟩
   ·rw[hql,hlc,List.map_append,<-hct,Nat.zero_add,Nat.mul_one]
    rw[List.take_add_one,List.take_set_of_le (Nat.le_refl _),List.getElem?_set_self (by omega)]
    rfl
   ·rw[hdr,Nat.zero_add,Nat.mul_one,List.drop_set_of_lt (by omega)]
 have hk2:j=l.length:=by omega
 subst hk2
 have hfl:keptF p l l.length=l.filter fun x=>!p x:=by unfold keptF;rw[List.take_length]
 rw[hfl] at hct hlt
 generalize hkq:(l.filter fun x=>!p x).length=q at *
 obtain⟨a',c',hfr,hA⟩:=A_fromB (P:=Tryz.prog) (t:=177) (el:=152) (b:=b) (n:=l.length) (k:=q) (sp:=sp) (kj:=.i64) Und.h Tsz.h hsp (by omega)
 obtain⟨o1,e1,e2⟩:=hfr hlt
 rw[e2] at e1
 subst e1
 obtain⟨c2,hc2,hB⟩:=A_toB (P:=Tryz.prog) (t:=177) (el:=152) (b:=b) (n:=l.length) (k:=q) (sp:=sp) (kj:=.i64) Und.h Tsz.h hsp (by omega)
 rw[hfl,hkq]
 refine zy ?_
 refine Wo_do rfl rfl rfl rfl (hA rfl rfl) ?_
 refine zy ?_
 refine Wo_do0 rfl rfl rfl (A_clearV rfl rfl rfl rfl (clear_at (z:=.pointer none) Und.h Zr.h rfl (repNil_one _) (by rcases hsp with rfl|rfl <;> simp) (by omega) hg2 (lay_some (by rw[rep_length,hcl];show q+(l.length-q)*1<=l.length;omega)))) ?_
 refine zy ?_
 refine Wo_do rfl rfl rfl rfl (hB rfl rfl) ?_
 refine zy ?_
 exact Wc_ret (Lv_ret rfl ⟨c2,_,by rw[hkq];rfl,by omega,hX2.set _ rfl,by rw[Heap.get_set_self,hct]⟩)
end Go.Dw
/- B7: contracts: the library's sorting of numbers; slices.Compact of numbers of the function's own. -/
namespace Go.Dw
open Go Go.Dx Go.Proofs Go.Sort
set_option maxRecDepth 100000
def sortI (l:List Int):List Int:=l.mergeSort fun a b=>decide (a<=b)
theorem sortI_perm (l:List Int):(sortI l).Perm l:=List.mergeSort_perm _ _
theorem sortI_up (l:List Int):(sortI l).Pairwise (·<=·):=(List.pairwise_mergeSort (fun a b c h1 h2=>decide_eq_true (by have:=of_decide_eq_true h1;have:=of_decide_eq_true h2;omega)) (fun a b=>by simp only[Bool.or_eq_true,decide_eq_true_eq];omega) l).imp fun h=>of_decide_eq_true h
theorem sortI_len (l:List Int):(sortI l).length=l.length:=(sortI_perm l).length_eq
theorem flatL_i64:∀l:List Int,flatL (l.map i64)=true
 | []=>rfl
 | _::l=>flatL_i64 l
theorem sortInts_sv {h0 h:Heap}{v:Value}{zs:List Int}{n:Nat}(hF:FreshSl h0 h v 3 1 (zs.map i64) n)(hn:n<1000000) :
  Sv Tryz.prog 159 [v] h (RetP fun r h'=>r=.tuple ⟨[]⟩/\FreshSl h0 h' v 3 1 ((sortI zs).map i64) n/\Exb (fun c=>blkOf v=some c) h h'):=by
 refine⟨fun ι w args' hr hv=>?_⟩
 obtain⟨l',rfl,hv⟩:=hv.arr
 cases hv with
 | cons hv1 hv2 =>
  cases hv2
  rcases hF.lies hr hv1 (by decide) with ⟨rfl,rfl,hz,rfl⟩|⟨b,bi,op,cap,c,hb,hg,hi,rfl,hc,hle,hV,hl,hnew⟩
  ·have:zs=[]:=List.map_eq_nil_iff.1 hz
   subst this
   refine (AnyM.slices_Sort_int_none laySort none 0 w).mono ?_
   rintro e w' ⟨rfl,rfl⟩
   exact⟨.ret (.tuple ⟨[]⟩) h,⟨rfl,by rw[show sortI []=[] from List.mergeSort_nil];exact FreshSl.nil _ _ _ _,Exb.refl _ _⟩,PostV_unch hr (VR.of_flat ι rfl) ⟨Nat.le_refl _,fun _ _=>rfl,rfl,rfl⟩⟩
  ·have hlz:zs.length=n:=by rw[List.length_map] at hl;omega
   have hcz:=hV.flat_eq (flatL_i64 zs)
   rw[List.length_map] at hcz hle
   have hH:Holds (Value.int .i64) w bi.blk 0 zs.toArray:=holds_of (enc:=i64) hc (by simpa using hcz)
   obtain⟨hbs,-⟩:=Array.getElem?_eq_some_iff.1 hc
   have hK:=AnyM.slices_Sort_int laySort bi.blk 0 cap zs w hH hbs (by omega)
   rw[hlz] at hK
   refine hK.mono ?_
   rintro e w' ⟨rfl,k,os,rfl⟩
   have hsl:(sortI zs).length=zs.length:=sortI_len zs
   have hts:(sortI zs).toArray.size<=c.size:=by simp[hsl];omega
   have hP:=PostV_row (h:=h) (vs2:=(sortI zs).map i64) (c2:=putCells i64 0 (sortI zs).toArray c) (r:=.tuple ⟨[]⟩) (r':=.tuple ⟨[]⟩) hr hg hi hc putCells_size (by simp[hsl]) (by
    have:=take_putCells (enc:=i64) hts
    rw[List.length_map]
    simp only[List.size_toArray] at this
    rw[this]
    exact VRL.of_flat ι (flatL_i64 _)) (VR.of_flat ι rfl) (sortedW (n:=k) (os:=os) hc).1 (sortedW hc).2 rfl rfl
   refine⟨.ret (.tuple ⟨[]⟩) (h.set b (.cells ((sortI zs).map i64) 3 op)),⟨rfl,hnew _ _ op (by simp[hsl]) (Upd.mk' h b _).at',?_⟩,hP⟩
   refine (Exb.ofUpd (Upd.mk' h b _)).mono fun x hx=>by rw[hx];exact hb
theorem repZero_one (n:Nat):allOne (rep n [i64 0])=true:=by
 induction n with
 | zero=>rfl
 | succ n ih =>
  rw[rep_succ]
  show allOne (i64 0::rep n [i64 0])=true
  simp only[allOne,List.all_cons] at ih ⊢
  rw[ih];rfl
theorem drop_cell {cs ds:List Value}{j i:Nat}(h:cs.drop j=ds.drop j)(hi:j<=i):cs[i]?=ds[i]?:=by
 have e1:(cs.drop j)[i-j]?=(ds.drop j)[i-j]?:=by rw[h]
 rw[List.getElem?_drop,List.getElem?_drop,show j+(i-j)=i by omega] at e1
 exact e1
theorem getD_at {S:List Int}{i:Nat}(hi:i<S.length):S.getD i 0=S[i]:=by rw[List.getD_eq_getElem?_getD,List.getElem?_eq_getElem hi];rfl
set_option maxHeartbeats 4000000 in
theorem compact_sv {h0 h:Heap}{v:Value}{S:List Int}(hF:FreshSl h0 h v 3 1 (S.map i64) S.length)(hlen:S.length<=1000000)(hw0:WF h0)(hE0:Ext h0 h) :
  Sv Tryz.prog 160 [v] h (RetP fun r h'=>Ext h0 h'/\Exb (fun c=>blkOf v=some c) h h'/\∃a cap,r=.slice a (cmpK S S.length).length cap/\IntsAt h' a (cmpK S S.length)/\∀b o sp,a=some ⟨b,o,sp⟩->blkOf v=some b):=by
 obtain⟨a0,e0,-,hI0⟩:=FreshSl.list (enc:=i64) hF
 by_cases hS2:S.length<2
 ·have hall:cmpK S S.length=S:=by
   rw[cmpK_all (Nat.le_refl _) fun i hi=>decide_eq_true (Or.inl (by omega)),List.take_length]
  rw[hall]
  subst e0
  refine Sv_enter Tryz.func160 rfl (by rw[Tryz.ntmps160];rfl) ?_;show Wc Tryz.prog ⟨160,61,none⟩ _ _ _ _ _
  refine zy ?_
  refine Wo_do rfl rfl rfl rfl (A_tt (show (S.length:Int)<2 by omega) (A_lss rfl rfl)) ?_
  refine zy ?_
  exact Wc_ret (Lv_ret rfl ⟨hE0,Exb.refl _ _,_,_,rfl,hI0,fun b o sp e=>by rw[e];rfl⟩)
 rcases hF with ⟨-,-,hz⟩|⟨b,sp,op,rfl,hg,-,hb0,hsp⟩
 ·omega
 clear e0 hI0
 have hI:ListAt i64 h (some ⟨b,0,sp⟩) S:=fun i hi=>⟨b,0,sp,rfl,cellAt_cells hg (by rw[nth_eq,Nat.zero_add,Nat.mul_one,List.getElem?_map,List.getElem?_eq_getElem hi];rfl)⟩
 refine Sv_enter Tryz.func160 rfl (by rw[Tryz.ntmps160];rfl) ?_;show Wc Tryz.prog ⟨160,61,none⟩ _ _ _ _ _
 refine zy ?_
 refine Wo_do rfl rfl rfl rfl (A_ff (show ¬(S.length:Int)<2 by omega) (A_lss rfl rfl)) ?_
 refine zy ?_
 refine Wc_loop (fun (j:Nat) m ds h'=>ds=[]/\1<=j/\j<=S.length/\h'=h/\(∀i,i<j->newAt S i=true)/\AllK m [(0,.slice (some ⟨b,0,sp⟩) S.length S.length),(3,i64 (j:Nat))]) (fun j=>S.length-j) 1 ?_ ?_
 ·exact⟨rfl,Nat.le_refl _,by omega,rfl,(fun i hi=>decide_eq_true (Or.inl (by omega))),rfl,rfl,trivial⟩
 rintro j m ds h1 ⟨rfl,hj1,hj,e1,hnew,hall⟩
 subst h1
 refine Wc.le ?_ (Le.kn hall)
 refine zy ?_
 refine Wo_dec rfl rfl rfl rfl (A_lss rfl rfl) (fun hjl=>?_) (fun hjl=>?_)
 rotate_left
 ·have hk2:j=S.length:=by omega
  subst hk2
  have hall:cmpK S S.length=S:=by rw[cmpK_all (Nat.le_refl _) hnew,List.take_length]
  rw[hall]
  refine zy ?_
  exact Wc_ret (Lv_ret rfl ⟨hE0,Exb.refl _ _,_,_,rfl,hI,fun b1 o1 s1 e=>by cases e;rfl⟩)
 have hj':j<S.length:=by omega
 obtain⟨k,rfl⟩:∃k,j=k+1:=⟨j-1,by omega⟩
 have hk':k<S.length:=by omega
 have hc1:cellAt h b (0+(k+1)*1)=some (i64 S[k+1]):=by
  obtain⟨b1,o1,s1,e,hc⟩:=hI (k+1) hj'
  cases e;exact hc
 have hc2:cellAt h b (0+k*1)=some (i64 S[k]):=by
  obtain⟨b1,o1,s1,e,hc⟩:=hI k hk'
  cases e;exact hc
 have hnj:newAt S (k+1)=decide (¬S[k+1]=S[k]):=by
  unfold newAt
  rw[getD_at hj',show k+1-1=k from rfl,getD_at hk']
  simp
 refine zy ?_
 by_cases heq:S[k+1]=S[k]
 rotate_left
 ·have hnj2:newAt S (k+1)=true:=by rw[hnj];exact decide_eq_true heq
  generalize S[k+1]=x at *
  generalize S[k]=y at *
  refine Wc_draw hmix [0,0,3,7,0,0,32,112,240,511] [0,1,2,3,4,5,6,7,8,9] none [] (by kernel_rfl) (by kernel_rfl) ?_
  refine z_m ?_;refine z_m ?_;refine Wp_pure rfl rfl rfl rfl rfl (fun _=>A_ix (k:=k+1) Und.h Tsz.h rfl rfl) ?_;refine z_l ?_;refine z_m ?_;refine z_m ?_;refine Wp_pure rfl rfl rfl rfl rfl (fun _=>A_sub rfl rfl (by omega) (by omega)) ?_;refine Wp_pure rfl rfl rfl rfl rfl (fun _=>A_indexAddr (k:=k) Und.h Tsz.h rfl rfl (by omega) (by omega)) ?_;refine z_l ?_;refine Wp_pure rfl rfl rfl rfl rfl (fun _=>A_ff heq (A_eql rfl rfl)) ?_
  refine Wp_end (Stl_nil rfl) nb' ?_
  refine zy ?_
  refine⟨k+1+1,(by show S.length-(k+1+1)<S.length-(k+1);omega),rfl,by omega,by omega,rfl,fun i hi=>?_,rfl,rfl,trivial⟩
  rcases Nat.lt_or_ge i (k+1) with q|q
  ·exact hnew i q
  ·have:i=k+1:=by omega
   rw[this];exact hnj2
 have hnj2:newAt S (k+1)=false:=by rw[hnj];exact decide_eq_false (fun q=>q heq)
 obtain⟨a2,c2,hfr,hA⟩:=A_fromB (P:=Tryz.prog) (t:=52) (el:=3) (b:=b) (n:=S.length) (k:=k+1) (sp:=sp) (kj:=.i64) Und.h Tsz.h hsp (by omega)
 obtain⟨o1,e1,e2⟩:=hfr hj'
 rw[e2] at e1
 subst e1
 have hcm0:cmpK S (k+1)=S.take (k+1):=cmpK_all (by omega) hnew
 have hcl0:(cmpK S (k+1+1)).length=k+1:=by rw[cmpK_succ,if_neg (by rw[hnj2];simp),hcm0,List.length_take];omega
 generalize hx:S[k+1]=x at *
 generalize hy:S[k]=y at *
 refine Wc_draw hmix [0,0,3,7,0,0,32,112,240,511] [0,1,2,3,4,5,6,7,8,9] none [] (by kernel_rfl) (by kernel_rfl) ?_
 refine z_m ?_;refine z_m ?_;refine Wp_pure rfl rfl rfl rfl rfl (fun _=>A_ix (k:=k+1) Und.h Tsz.h rfl rfl) ?_;refine z_l ?_;refine z_m ?_;refine z_m ?_;refine Wp_pure rfl rfl rfl rfl rfl (fun _=>A_sub rfl rfl (by omega) (by omega)) ?_;refine Wp_pure rfl rfl rfl rfl rfl (fun _=>A_indexAddr (k:=k) Und.h Tsz.h rfl rfl (by omega) (by omega)) ?_;refine z_l ?_;refine Wp_pure rfl rfl rfl rfl rfl (fun _=>A_tt heq (A_eql rfl rfl)) ?_
 refine Wp_end (Stl_nil rfl) nb' ?_
 refine zy ?_
 refine Wo_do rfl rfl rfl rfl (hA rfl rfl) ?_
 refine zy ?_
 refine Wc_loop (fun (i:Nat) m ds h'=>ds=[]/\1<=i/\i<=S.length-(k+1)/\Exb (fun c=>c=b) h h'/\(∃cs:List Value,h'.get b=some (.cells cs 3 op)/\cs.length=S.length/\cs.take (cmpK S (k+1+i)).length=(cmpK S (k+1+i)).map i64/\cs.drop (k+i)=(S.map i64).drop (k+i))/\(cmpK S (k+1+i)).length<=k+i ∧
   AllK m [(0,.slice (some ⟨b,0,sp⟩) S.length S.length),(3,i64 ((cmpK S (k+1+i)).length:Nat)),(4,.slice (some ⟨b,k+1,sp⟩) (S.length-(k+1)) c2),(5,i64 (i:Nat))]) (fun i=>S.length-i) 1 ?_ ?_
 ·refine⟨rfl,Nat.le_refl _,by omega,Exb.refl _ _,⟨_,hg,by rw[List.length_map],?_,rfl⟩,by omega,rfl,(by rw[hcl0];rfl),rfl,rfl,trivial⟩
  rw[hcl0,cmpK_succ,if_neg (by rw[hnj2];simp),hcm0,List.map_take]
 rintro i m ds h2 ⟨rfl,hi1,hi,hX2,⟨cs,hg2,hcl,hct,hcd⟩,hql,hall⟩
 refine Wc.le ?_ (Le.kn hall)
 refine zy ?_
 refine Wo_dec rfl rfl rfl rfl (A_lss rfl rfl) (fun hil=>?_) (fun hil=>?_)
 ·have hi':k+1+i<S.length:=by omega
  obtain⟨i,rfl⟩:∃i',i=i'+1:=⟨i-1,by omega⟩
  have hi2:k+1+i<S.length:=by omega
  have hstep:=cmpK_succ S (k+1+(i+1))
  have hn2:newAt S (k+1+(i+1))=decide (S[k+1+(i+1)]≠S[k+1+i]):=by
   unfold newAt
   rw[getD_at hi',show k+1+(i+1)-1=k+1+i by omega,getD_at hi2]
   simp
  rw[getD_at hi',hn2] at hstep
  have hd1:cellAt h2 b (k+1+(i+1)*1)=some (i64 S[k+1+(i+1)]):=cellAt_cells hg2 (by
   rw[nth_eq,Nat.mul_one,drop_cell hcd (by omega),List.getElem?_map,List.getElem?_eq_getElem hi'];rfl)
  have hd2:cellAt h2 b (k+1+i*1)=some (i64 S[k+1+i]):=cellAt_cells hg2 (by
   rw[nth_eq,Nat.mul_one,drop_cell hcd (by omega),List.getElem?_map,List.getElem?_eq_getElem hi2];rfl)
  have hdr:cs.drop (k+(i+1+1))=(S.map i64).drop (k+(i+1+1)):=by
   have e1:(cs.drop (k+(i+1))).drop 1=((S.map i64).drop (k+(i+1))).drop 1:=by rw[hcd]
   rw[List.drop_drop,List.drop_drop] at e1
   exact e1
  have hkk:k+1+(i+1)+1=k+1+(i+1+1):=by omega
  rw[hkk] at hstep
  generalize S[k+1+(i+1)]=x2 at *
  generalize S[k+1+i]=y2 at *
  generalize hqq:(cmpK S (k+1+(i+1))).length=q at *
  refine zy ?_
  by_cases hne:x2=y2
  ·rw[if_neg (by simp[hne])] at hstep
   refine Wc_draw hmix [0,0,3,7,0,0,32,112,240,511] [0,1,2,3,4,5,6,7,8,9] none [] (by kernel_rfl) (by kernel_rfl) ?_
   refine z_m ?_;refine z_m ?_;refine Wp_pure rfl rfl rfl rfl rfl (fun _=>A_ix (k:=i+1) Und.h Tsz.h rfl rfl) ?_;refine z_l ?_;refine z_m ?_;refine z_m ?_;refine Wp_pure rfl rfl rfl rfl rfl (fun _=>A_sub rfl rfl (by omega) (by omega)) ?_;refine Wp_pure rfl rfl rfl rfl rfl (fun _=>A_indexAddr (k:=i) Und.h Tsz.h rfl rfl (by omega) (by omega)) ?_;refine z_l ?_;refine Wp_pure rfl rfl rfl rfl rfl (fun _=>A_ff (show ¬x2≠y2 from fun q=>q hne) (A_neq rfl rfl)) ?_
   refine Wp_end (Stl_nil rfl) nb' ?_
   refine zy ?_
   exact⟨i+1+1,(by show S.length-(i+1+1)<S.length-(i+1);omega),rfl,by omega,by omega,hX2,⟨cs,hg2,hcl,by rw[hstep,hqq];exact hct,hdr⟩,(by rw[hstep,hqq];omega),rfl,(by rw[hstep,hqq];rfl),rfl,rfl,trivial⟩
  ·rw[if_pos (by simp[hne])] at hstep
   have hql2:(cmpK S (k+1+(i+1+1))).length=q+1:=by rw[hstep,List.length_append,hqq];rfl
   have hqlt:q<S.length:=by omega
   refine Wc_draw hmix [0,0,3,7,0,0,32,112,240,511] [0,1,2,3,4,5,6,7,8,9] none [] (by kernel_rfl) (by kernel_rfl) ?_
   refine z_m ?_;refine z_m ?_;refine Wp_pure rfl rfl rfl rfl rfl (fun _=>A_ix (k:=i+1) Und.h Tsz.h rfl rfl) ?_;refine z_l ?_;refine z_m ?_;refine z_m ?_;refine Wp_pure rfl rfl rfl rfl rfl (fun _=>A_sub rfl rfl (by omega) (by omega)) ?_;refine Wp_pure rfl rfl rfl rfl rfl (fun _=>A_indexAddr (k:=i) Und.h Tsz.h rfl rfl (by omega) (by omega)) ?_;refine z_l ?_;refine Wp_pure rfl rfl rfl rfl rfl (fun _=>A_tt (show x2≠y2 from hne) (A_neq rfl rfl)) ?_
   refine Wp_end (Stl_nil rfl) nb' ?_
   refine zy ?_
   refine Wo_do rfl rfl rfl rfl (A_ix Und.h Tsz.h rfl rfl) ?_
   refine zy ?_
   refine Wo_do rfl rfl rfl rfl (A_ix Und.h Tsz.h rfl rfl) ?_
   refine zy ?_
   refine Wo_store rfl Tsz.h rfl rfl hg2 rfl rfl (lay_one (by rw[hcl,Nat.zero_add,Nat.mul_one];exact hqlt)) fun h4 hU=>?_
   refine zy ?_
   refine⟨i+1+1,(by show S.length-(i+1+1)<S.length-(i+1);omega),rfl,by omega,by omega,hX2.upd hU rfl,⟨_,hU.at',by rw[List.length_set];exact hcl,?_,?_⟩,by omega,rfl,(by rw[hql2];rfl),rfl,rfl,trivial⟩
   ·rw[hql2,hstep,List.map_append,<-hct,Nat.zero_add,Nat.mul_one]
    rw[List.take_add_one,List.take_set_of_le (Nat.le_refl _),List.getElem?_set_self (by omega)]
    rfl
   ·rw[<-hdr,Nat.zero_add,Nat.mul_one,List.drop_set_of_lt (by omega)]
 have hk2:k+1+i=S.length:=by omega
 rw[hk2] at hct
 have hql3:(cmpK S S.length).length<S.length:=by rw[<-hk2];omega
 generalize hqq:(cmpK S S.length).length=q at *
 obtain⟨a3,c3,hfr3,hA3⟩:=A_fromB (P:=Tryz.prog) (t:=52) (el:=3) (b:=b) (n:=S.length) (k:=q) (sp:=sp) (kj:=.i64) Und.h Tsz.h hsp (by omega)
 obtain⟨o3,e1,e2⟩:=hfr3 hql3
 rw[e2] at e1
 subst e1
 obtain⟨c4,hc4,hB⟩:=A_toB (P:=Tryz.prog) (t:=52) (el:=3) (b:=b) (n:=S.length) (k:=q) (sp:=sp) (kj:=.i64) Und.h Tsz.h hsp (by omega)
 rw[hk2,hqq]
 refine zy ?_
 refine Wo_do rfl rfl rfl rfl (hA3 rfl rfl) ?_
 refine zy ?_
 refine Wo_do0 rfl rfl rfl (A_clearV rfl rfl rfl rfl (clear_at (z:=i64 0) Und.h Zr.h rfl (repZero_one _) (by rcases hsp with rfl|rfl <;> simp) (by omega) hg2 (lay_some (by rw[rep_length,hcl];show q+(S.length-q)*1<=S.length;omega)))) ?_
 refine zy ?_
 refine Wo_do rfl rfl rfl rfl (hB rfl rfl) ?_
 refine zy ?_
 have hX3:Exb (fun c=>c=b) h (h2.set b (.cells (cs.take q++(rep (S.length-q) (i64 0).cells.toList++cs.drop (q+(rep (S.length-q) (i64 0).cells.toList).length))) 3 op)):=hX2.set _ rfl
 refine Wc_ret (Lv_ret rfl ⟨hX3.ext hE0 hw0 fun c hc=>by rw[hc];exact hb0,hX3.mono fun c hc=>by rw[hc];rfl,_,c4,rfl,fun i hi=>⟨b,0,sp,rfl,?_⟩,fun b1 o1 s1 e=>by cases e;rfl⟩)
 refine cellAt_cells (Heap.get_set_self _ _ _) ?_
 rw[nth_eq,Nat.zero_add,Nat.mul_one,hct,List.getElem?_append_left (by rw[List.length_map];exact hi),List.getElem?_map,List.getElem?_eq_getElem hi]
 rfl
end Go.Dw
/- B8: contracts: screen.prices: a range over the minutes that cost something. -/
namespace Go.Dw
open Go Go.Dx Go.Proofs
set_option maxRecDepth 100000
theorem list_keep {α:Type}{enc:α->Value}{h h':Heap}{a:Option Addr}{l:List α}(hl:ListAt enc h a l)(hk:∀b o sp,a=some ⟨b,o,sp⟩->∀x,h.get b=some x->h'.get b=some x):ListAt enc h' a l:=fun i hi=>by
 obtain⟨b,o,oa,e,hc⟩:=hl i hi
 obtain⟨x,hx⟩:=cellAt_some hc
 exact⟨b,o,oa,e,by rw[cellAt_get ((hk b o oa e _ hx).trans hx.symm)];exact hc⟩
theorem ProgI.keep {h h':Heap}{c1 c2 c3 bm bH:Nat}{t:ScT}{a:Option Addr}{cap:Nat}{zs:List (Nat×ScS)}{memo:List (Int×Value)}(p:ProgI h c1 c2 c3 bm bH t a cap zs memo)(hk:∀c,c=c1\/c=c2\/c=c3\/c=bm->∀x,h.get c=some x->h'.get c=some x)(hl:ListAt ptrZ h' a zs)(hs:ShowsP h' bH t zs):ProgI h' c1 c2 c3 bm bH t a cap zs memo :=
 ⟨hk _ (.inl rfl) _ p.g1,hk _ (.inr (.inl rfl)) _ p.g2,hk _ (.inr (.inr (.inl rfl))) _ p.g3,hl,hs,by
  obtain⟨es,cl,h1,h2⟩:=p.mp
  exact⟨es,cl,hk _ (.inr (.inr (.inr rfl))) _ h1,h2⟩,p.ok⟩
theorem prices_sv {a:Option Addr}{n c:Nat}{h:Heap}:Sv Tryz.prog 113 [.slice a n c] h (RetP fun r h'=>∃c1,r=.func (.func 158) ⟨[]⟩ ⟨[.pointer (some ⟨c1,0,none⟩)]⟩/\Ext h h'/\h.nx<=c1/\h'.get c1=some (.cells [.slice a n c] 177 false)):=by
 refine Sv_enter Tryz.func113 rfl (by rw[Tryz.ntmps113];rfl) ?_;show Wc Tryz.prog ⟨113,4,none⟩ _ _ _ _ _
 refine zy ?_
 refine Wo_box rfl rfl rfl fun h1 hE1 hW1 hg1 hn1=>?_
 refine zy ?_
 exact Wc_ret (Lv_ret rfl ⟨_,rfl,hE1,Nat.le_refl _,hg1⟩)
set_option maxHeartbeats 4000000 in
theorem pricesIter_sv {l c1 cap bH:Nat}{t:ScT}{a:Option Addr}{zs:List (Nat×ScS)}{h:Heap}(hO:ScOk t)(hz:∀z∈zs,shownErr t z.2=0)(hlen:zs.length<=40)(hg1:h.get c1=some (.cells [.slice a zs.length cap] 177 false))(hLA:LeftAt ptrZ h a cap zs)(hSP:ShowsP h bH t zs)(S:Nat->Prop)(hS:∀b,S b->b<h.nx)(J:Nat->Nat->List (Int×Int)->Heap->Prop)
  (hJ0:∀h4 bm,Ext h h4->h.nx<=bm->bm<h4.nx->J bm h4.nx [] h4)
  (hJ:∀bm n4 out h',J bm n4 out h'->LeftAt ptrZ h' a cap zs/\ShowsP h' bH t zs)
  (hst:∀bm n4 out h1 h2,J bm n4 out h1->Exb (fun b=>b=bm) h1 h2->J bm n4 out h2)
  (hy:∀bm n4 out m p h',J bm n4 out h'->out.length<40->Yd Tryz.prog l [i64 m,i64 p] h' (fun v h''=>v=.bool true/\J bm n4 (out++[(m,p)]) h''/\Exb (fun c=>S c\/n4<=c) h' h'')) :
  Sv Tryz.prog 158 [.func (.yield l) ⟨[]⟩ ⟨[]⟩,.pointer (some ⟨c1,0,none⟩)] h (RetP fun _ h'=>∃bm n4 E,EndsOk (zs.map (ivZ t)) E/\J bm n4 (priceL (zs.map (ivZ t)) E) h'):=by
 have g1:=hg1
 have hZ:=hLA.li
 refine Sv_wf fun hw=>?_
 refine Sv_enter Tryz.func158 rfl (by rw[Tryz.ntmps158];rfl) ?_;show Wc Tryz.prog ⟨158,52,none⟩ _ _ _ _ _
 refine zy ?_
 refine Wc_loop (fun (s:Nat×Value) m ds h'=>ds=[]/\s.1<=zs.length/\Ext h h'/\FreshSl h h' s.2 3 1 (((zs.take s.1).map fun z=>overS t z.2).map i64) s.1 ∧
   AllK m [(0,.func (.yield l) ⟨[]⟩ ⟨[]⟩),(1,.pointer (some ⟨c1,0,none⟩)),(3,s.2),(10,.slice a zs.length cap),(11,i64 zs.length),(12,i64 s.1)]) (fun s=>zs.length-s.1) (0,.slice none 0 0) ?_ ?_
 ·exact⟨rfl,Nat.zero_le _,Ext.refl _,FreshSl.nil _ _ _ _,rfl,rfl,rfl,rfl,rfl,rfl,trivial⟩
 rintro⟨k,v⟩ m ds h1 ⟨rfl,hk,hE1,hF1,hall⟩
 simp only at hk hF1 hall
 refine Wc_wf fun hw1=>?_
 refine Wc.le ?_ (Le.kn hall)
 refine zy ?_
 refine Wo_dec rfl rfl rfl rfl (A_lss rfl rfl) (fun hlt=>?_) (fun hlt=>?_)
 ·have hk':k<zs.length:=by omega
  obtain⟨b,o,oa,rfl,hcell⟩:=hZ k hk'
  have hzk:=hz _ (List.getElem_mem hk')
  have hsh:=(hSP _ (List.getElem_mem hk')).ext hE1
  have htk:((zs.take (k+1)).map fun z=>overS t z.2).map i64=((zs.take k).map fun z=>overS t z.2).map i64++[i64 (overS t zs[k].2)]:=by
   rw[List.take_add_one,List.getElem?_eq_getElem hk',List.map_append,List.map_append];rfl
  replace hcell:=hE1.cell hcell
  generalize zs[k]=z at *
  have hov:=over_sv hsh hO hzk
  refine zy ?_
  refine Wo_do rfl rfl rfl rfl (A_ix Und.h Tsz.h rfl rfl) ?_
  refine zy ?_
  refine Wo_callV rfl rfl rfl rfl rfl Bod.h rfl rfl (hov) ?_
  refine zy ?_
  refine Wo_bs rfl rfl Und.h Tsz.h Zr.h rfl rfl rfl rfl rfl fun h2 hE2 hW2 hg2 hn2=>?_
  refine zy ?_
  refine Wo_appendF (k:=1) (l:=[i64 (overS t z.2)]) hw (hE1.trans hE2) rfl rfl rfl rfl rfl Und.h inferInstance rfl rfl (hF1.ext hE2) (asrc_row Und.h (by intro k;simp) (rowAt_cells hg2 rfl)) rfl rfl (by omega) (by omega) fun v3 h3 hF3 hE3 _ _ _=>?_
  rw[<-htk] at hF3
  refine zy ?_
  exact⟨(k+1,v3),(by show zs.length-(k+1)<zs.length-k;omega),rfl,hk',hE3,hF3,rfl,rfl,rfl,rfl,rfl,rfl,trivial⟩
 have hk2:k=zs.length:=by omega
 subst hk2
 rw[List.take_length] at hF1
 generalize hends:(zs.map fun z=>overS t z.2)=ends at *
 have hel:ends.length=zs.length:=by rw[<-hends,List.length_map]
 refine zy ?_
 refine Wo_callr rfl rfl rfl rfl rfl Bod.h rfl rfl (sortInts_sv hF1 (by omega)) ?_
 rintro _ h2 ⟨rfl,hF2,hX2⟩
 have hown:∀c,blkOf v=some c->h.nx<=c:=fun c hc=>by
  rcases hF1 with ⟨rfl,-,-⟩|⟨b,sp,op,rfl,-,-,hb,-⟩
  ·cases hc
  ·cases hc;exact hb
 have hE2:=hX2.ext hE1 hw hown
 refine Wo_wf fun hw2=>?_
 have hsl:(sortI ends).length=zs.length:=by rw[sortI_len,hel]
 rw[<-hsl] at hF2
 refine zy ?_
 have g12:=hE2.get g1
 refine zy ?_
 refine Wo_callr rfl rfl rfl rfl rfl Bod.h rfl rfl (program_sv (hZ.ext hE2) (hSP.ext hE2)) ?_
 rintro _ h3 ⟨d1,d2,d3,bm,rfl,hE3,⟨nb,n1,n2,n3⟩,hP⟩
 have hE03:=hE2.trans hE3
 refine Wo_wf fun hw3=>?_
 refine zy ?_
 refine Wo_callr rfl rfl rfl rfl rfl Bod.h rfl rfl (compact_sv (hF2.ext hE3) (by omega) hw hE03) ?_
 rintro _ h4 ⟨hE04,hX4,aE,cE,rfl,hI4,hbE⟩
 refine Wo_wf fun hw4=>?_
 have hEn:EndsOk (zs.map (ivZ t)) (cmpK (sortI ends) (sortI ends).length):=ends_cmp (by
  refine (sortI_perm ends).trans ?_
  rw[<-hends,List.map_map]
  exact List.Perm.refl _) (sortI_up _)
 have hEl:=ends_len hEn
 rw[List.length_map] at hEl
 have hblt:∀c,blkOf v=some c->c<h2.nx:=fun c hc=>by
  obtain⟨op,hq⟩:=hF2.got hc
  exact hw2 _ _ hq
 have hP4:ProgI h4 d1 d2 d3 bm bH t a cap zs []:=hP.keep (fun c hc x hx=>hX4.get (fun q=>by have:=hblt c q;omega) hx) (hZ.ext hE04) (hSP.ext hE04)
 generalize cmpK (sortI ends) (sortI ends).length=E at *
 have hJ4:J bm h4.nx [] h4:=hJ0 h4 bm hE04 (by have:=hE2.2.1;omega) (by
  obtain⟨es,cl,hq,-⟩:=hP4.mp
  exact hw4 _ _ hq)
 have hd1:=hw4 _ _ hP4.g1
 have hd2:=hw4 _ _ hP4.g2
 have hd3:=hw4 _ _ hP4.g3
 have hdm:bm<h4.nx:=by
  obtain⟨es,cl,hq,-⟩:=hP4.mp
  exact hw4 _ _ hq
 have hb4:h2.nx<=h4.nx:=Nat.le_trans hE3.2.1 hX4.2.1
 generalize h4.nx=n4 at *
 have hbnx:h.nx<=h2.nx:=hE2.2.1
 refine zy ?_
 refine Wc_loop (fun (k:Nat) m ds h'=>ds=[]/\k<=E.length/\J bm n4 (priceL (zs.map (ivZ t)) (E.take k)) h'/\IntsAt h' aE E/\(∃memo,ProgI h' d1 d2 d3 bm bH t a cap zs memo) ∧
   AllK m [(0,.func (.yield l) ⟨[]⟩ ⟨[]⟩),(6,.func (.func 157) ⟨[]⟩ ⟨[.pointer (some ⟨d1,0,none⟩),.pointer (some ⟨d2,0,none⟩),.pointer (some ⟨d3,0,none⟩)]⟩),(27,.slice aE E.length cE),(28,i64 E.length),(29,i64 k)]) (fun k=>E.length-k) 0 ?_ ?_
 ·exact⟨rfl,Nat.zero_le _,hJ4,hI4,⟨_,hP4⟩,rfl,rfl,rfl,rfl,rfl,trivial⟩
 clear hJ4 hP4 hI4 g1 hall
 rintro k m ds h5 ⟨rfl,hk,hJ5,hI5,⟨memo,hP5⟩,hall⟩
 refine Wc.le ?_ (Le.kn hall)
 refine zy ?_
 refine Wo_dec rfl rfl rfl rfl (A_lss rfl rfl) (fun hlt=>?_) (fun hlt=>?_)
 rotate_left
 ·have hk2:k=E.length:=by omega
  subst hk2
  rw[List.take_length] at hJ5
  refine zy ?_
  exact Lv_normal rfl ⟨bm,n4,E,hEn,hJ5⟩
 have hk':k<E.length:=by omega
 have hout:(priceL (zs.map (ivZ t)) (E.take k)).length<40:=by
  have:=priceL_len (l:=zs.map (ivZ t)) (E:=E.take k)
  rw[List.length_take] at this
  omega
 have hpt:=priceL_take (l:=zs.map (ivZ t)) hk'
 obtain⟨b,o,oa,rfl,hcell⟩:=hI5 k hk'
 have hbb:=hbE b o oa rfl
 have hb1:=hblt b hbb
 have hb0:=hown b hbb
 obtain⟨x,hx,hxe⟩:=(hEn.2 _).1 (List.getElem_mem hk')
 obtain⟨z,hz1,rfl⟩:=List.mem_map.1 hx
 have hrg:=over_rng hO (hz z hz1)
 have hxe2:overS t z.2=E[k]:=hxe
 rw[hxe2] at hrg
 generalize E[k]=e at *
 obtain⟨en,rfl⟩:∃en:Nat,e=(en:Int):=⟨e.toNat,by omega⟩
 clear hxe hxe2 hx
 have hab:∀b o oa,a=some ⟨b,o,oa⟩->b≠bm:=fun b o oa e=>by
  obtain⟨⟨x,hx⟩,-⟩:=hLA.pl b o oa e
  have:=hw _ _ hx
  omega
 have hivs:∀x∈zs.map (ivZ t),x.Ok:=fun x hx=>by
  obtain⟨z,hz1,rfl⟩:=List.mem_map.1 hx
  exact ivZ_ok hO (hz z hz1)
 have hivw:∀x∈zs.map (ivZ t),x.w<=1000000:=fun x hx=>by
  obtain⟨z,hz1,rfl⟩:=List.mem_map.1 hx
  obtain⟨-,-,-,-,w1,w2⟩:=shown_ok (hz z hz1)
  exact w2
 have hr1:=progGo_sv hO hz (by omega) hab en (by omega) h5 memo hP5
 have hm1:=mostI_le hivs hivw en
 have hm1':=mostI_nonneg hivs (show (0:Int)<=en by omega)
 have hm2:=mostI_le hivs hivw (en-1)
 have hm2':=mostI_nonneg hivs (show (0:Int)<=((en-1:Nat):Int) by omega)
 have hen1:((en-1:Nat):Int)=(en:Int)-1:=by omega
 have hpr:priceI (zs.map (ivZ t)) en=mostI (zs.map (ivZ t)) en-mostI (zs.map (ivZ t)) ((en:Int)-1):=rfl
 rw[hen1] at hm2 hm2'
 refine zy ?_
 refine Wo_do rfl rfl rfl rfl (A_ix Und.h Tsz.h rfl rfl) ?_
 refine zy ?_
 refine Wo_callr rfl rfl rfl rfl rfl Bod.h rfl rfl hr1 ?_
 rintro _ h6 ⟨rfl,hX6,memo6,hP6⟩
 have hr2:=progGo_sv hO hz (by omega) hab (en-1) (by omega) h6 memo6 hP6
 rw[hen1] at hr2
 refine zy ?_
 refine Wo_callr rfl rfl rfl rfl rfl Bod.h rfl rfl hr2 ?_
 rintro _ h7 ⟨rfl,hX7,memo7,hP7⟩
 have hX57:=hX6.trans hX7
 have hJ7:=hst _ _ _ _ _ hJ5 hX57
 have hI7:IntsAt h7 (some ⟨b,o,oa⟩) E:=list_keep hI5 fun b1 o1 s1 e x hx=>hX57.get (fun q=>by cases e;omega) hx
 rw[hpr] at hpt
 clear hpr hr1 hr2
 generalize mostI (zs.map (ivZ t)) en=M1 at *
 generalize mostI (zs.map (ivZ t)) ((en:Int)-1)=M2 at *
 refine zy ?_
 refine Wo_dec rfl rfl rfl rfl (A_gtr rfl rfl) (fun hp0=>?_) (fun hp0=>?_)
 ·rw[if_pos (by omega)] at hpt
  refine zy ?_
  refine Wo_yield rfl rfl rfl rfl rfl rfl rfl (hy _ _ _ ((en:Int)-1) (M1-M2) h7 hJ7 hout) ?_
  rintro _ h8 ⟨rfl,hJ8,hX8⟩
  obtain⟨hLA8,hSP8⟩:=hJ _ _ _ _ hJ8
  have hI8:IntsAt h8 (some ⟨b,o,oa⟩) E:=list_keep hI7 fun b1 o1 s1 e x hx=>hX8.get (fun q=>by cases e;exact q.elim (fun q=>by have:=hS _ q;omega) (fun q=>by omega)) hx
  refine zy ?_
  exact⟨k+1,(by show E.length-(k+1)<E.length-k;omega),rfl,hk',(by rw[hpt];exact hJ8),hI8,⟨memo7,hP7.keep (fun c hc x hx=>hX8.get (fun q=>by exact q.elim (fun q=>by have:=hS _ q;omega) (fun q=>by omega)) hx) hLA8.li hSP8⟩,rfl,rfl,rfl,rfl,rfl,trivial⟩
 ·rw[if_neg (by omega),List.append_nil] at hpt
  refine zy ?_
  exact⟨k+1,(by show E.length-(k+1)<E.length-k;omega),rfl,hk',(by rw[hpt];exact hJ7),hI7,⟨memo7,hP7⟩,rfl,rfl,rfl,rfl,rfl,trivial⟩
end Go.Dw
/- B9: contracts: screen.Best. -/
namespace Go.Dw
open Go Go.Dx Go.Proofs
set_option maxRecDepth 100000
def ivS (t:ScT)(s:ScS):Iv:=⟨s.minute,overS t s,s.worth⟩
def canI (t:ScT)(v:Int)(l:List ScS):List Iv:=(canS t v l).map fun c=>ivS t c.1
def bestW (t:ScT)(v:Int)(l:List ScS):Int:=mostI (canI t v l) 115200
def chosenS (t:ScT)(v:Int)(l:List ScS):List (ScS×Nat):=choP (fun c:ScS×Nat=>ivS t c.1) 115200 (bestW t v l) (canS t v l).length (canS t v l) 0
def prRow (p:Int×Int):List Value:=[i64 p.1,i64 p.2]
def BestR (t:ScT)(v:Int)(l:List ScS)(h:Heap)(r:Value)(h':Heap):Prop:=Ext h h'/\((¬candErr t v l=0/\r=.tuple ⟨[.slice none 0 0,i64 0,.slice none 0 0,i64 (candErr t v l)]⟩)\/(candErr t v l=0/\∃vc vp E,r=.tuple ⟨[vc,i64 (bestW t v l),vp,i64 0]⟩/\FreshSl h h' vc 3 1 (((chosenS t v l).map fun c=>(c.2:Int)).map i64) (chosenS t v l).length/\EndsOk (canI t v l) E/\FreshSl h h' vp 110 2 ((priceL (canI t v l) E).flatMap prRow) (priceL (canI t v l) E).length))
theorem dist_apart {t:ScT}{x y:ScS}(hv:x.venue=y.venue):distB t x y=!decide (apart2 (ivS t x) (ivS t y)):=by
 unfold distB
 by_cases ha:overS t x<=y.minute\/overS t y<=x.minute
 ·rw[decide_eq_false (fun q:x.venue=y.venue/\x.minute<overS t y/\y.minute<overS t x=>by omega),decide_eq_true (show apart2 (ivS t x) (ivS t y) from ha)]
  rfl
 ·rw[decide_eq_true (show x.venue=y.venue/\x.minute<overS t y/\y.minute<overS t x from⟨hv,by omega,by omega⟩),decide_eq_false (show ¬apart2 (ivS t x) (ivS t y) from ha)]
  rfl
theorem dist_self {t:ScT}(hO:ScOk t){x:ScS}(h0:shownErr t x=0):distB t x x=true:=by
 obtain⟨h1,h2,h3,h4,h5⟩:=over_rng hO h0
 unfold distB
 exact decide_eq_true ⟨rfl,by omega,by omega⟩
abbrev CW:=(Nat×ScS)×Nat
abbrev ivW (t:ScT)(w:CW):Iv:=ivZ t w.1
theorem away_del {t:ScT}(hO:ScOk t){w:CW}{L:List CW}(h0:shownErr t w.1.2=0)(hv:∀u∈L,u.1.2.venue=w.1.2.venue):(((w::L).map Prod.fst).filter fun z=>!distB t w.1.2 z.2)=(awayA (ivW t) w L).map Prod.fst:=by
 rw[List.map_cons,List.filter_cons,if_neg (by rw[dist_self hO h0];simp),List.filter_map]
 unfold awayA
 congr 1
 refine List.filter_congr fun u hu=>?_
 show (!distB t w.1.2 u.1.2)=_
 rw[dist_apart (hv u hu).symm,Bool.not_not]
 rfl
set_option maxHeartbeats 8000000 in
theorem scBest_sv {tc:List Value}{t:ScT}{v:Int}{l:List ScS}{al:Option Addr}{cl:Nat}{h:Heap}(ht:ScTAt h tc t)(hT:t.Fit)(hv:I64 v)(hl:RowsAt 6 ScSR h al l)(hlF:∀s∈l,s.Fit)(hL:Len l):Sv Tryz.prog 42 [.agg ⟨tc⟩,i64 v,.slice al l.length cl] h (RetP (BestR t v l h)):=by
 have ht0:=ht
 obtain⟨xl,cxl,at',ct,a1,c1,a2,c2,a3,c3,a4,c4,a5,c5,a6,c6,rfl,-⟩:=ht
 refine Sv_wf fun hw=>?_
 refine Sv_enter Tryz.func42 rfl (by rw[Tryz.ntmps42];rfl) ?_;show Wc Tryz.prog ⟨42,94,none⟩ _ _ _ _ _
 refine zy ?_
 refine Wo_box rfl rfl rfl fun h1 hE1 hW1 hg1 hn1=>?_
 refine zy ?_
 refine Wo_alloc rfl rfl Zr.h fun h2 hE2 hW2 hg2 hn2=>?_
 replace hg1:=hE2.get hg1
 have hb8:h.nx<=h1.nx:=by omega
 generalize h1.nx=b8 at *
 replace hE2:=hE1.trans hE2
 clear hE1 hW1 hn1
 refine zy ?_
 refine Wo_callr rfl rfl rfl rfl rfl Bod.h rfl rfl (candidates_sv (ht0.ext hE2) hT hv (RowsAt.ext (R:=ScSR) (fun x _=>x) hl hE2) hlF hL) ?_
 rintro _ h3 ⟨hE3,⟨he,rfl⟩|⟨he,hO,-,a,cap,ai,ci,bH,ws,rfl,hws,hLA,hIn,hSP,hHo,hnd,hwl,hsh,hab⟩⟩
 ·have k3:=hE3.get hg2
  refine zy ?_
  refine Wo_dec rfl rfl rfl rfl (A_neq rfl rfl) (fun h4=>?_) (fun h4=>?_)
  ·refine zy ?_
   refine Wo_store rfl Tsz.h rfl rfl k3 rfl rfl rfl fun h5 hU=>?_
   refine zy ?_
   exact Wc_ret (Lv_ret (vs:=[.slice none 0 0,i64 0,.slice none 0 0,i64 (candErr t v l)]) (resk_tmp rfl (resk_tmp rfl (resk_cell rfl (aload_cell OneC.h (cellAt_cells hU.at' rfl)) (resk_tmp rfl rfl)))) ⟨hU.ext (hE2.trans hE3) hw (by omega),.inl ⟨he,rfl⟩⟩)
  ·exact absurd (Decidable.not_not.1 h4) he
 replace hg2:=hE3.get hg2
 have hE:=hE2.trans hE3
 clear hE2 hE3 hg1
 refine zy ?_
 refine Wo_dec rfl rfl rfl rfl (A_neq rfl rfl) (fun h4=>?_) (fun h4=>?_)
 ·exact absurd rfl h4
 clear h4
 refine Wo_wf fun hw3=>?_
 have hb83:=hw3 _ _ hg2
 have hzs:∀z∈ws.map Prod.fst,shownErr t z.2=0:=fun z hz=>by
  obtain⟨w,hw,rfl⟩:=List.mem_map.1 hz
  exact hsh w hw
 have hcI:canI t v l=ws.map (ivW t):=by
  unfold canI
  rw[<-hws,List.map_map];rfl
 have hvn:∀w∈ws,w.1.2.venue=v:=fun w hw=>by
  have:(w.1.2,w.2)∈canS t v l:=by rw[<-hws];exact List.mem_map_of_mem hw
  exact (canS_mem this).2.2.1
 have hivs:∀L:List CW,(∀w∈L,w∈ws)->∀x∈L.map (ivW t),x.Ok/\x.w<=1000000:=fun L hL x hx=>by
  obtain⟨w,hw,rfl⟩:=List.mem_map.1 hx
  refine⟨ivZ_ok hO (hsh w (hL w hw)),?_⟩
  obtain⟨-,-,-,-,w1,w2⟩:=shown_ok (hsh w (hL w hw))
  exact w2
 have hmI:∀L:List CW,(∀w∈L,w∈ws)->0<=mostI (L.map (ivW t)) 115200/\mostI (L.map (ivW t)) 115200<=115200000000:=fun L hL=>by
  refine⟨mostI_nonneg (fun x hx=>(hivs L hL x hx).1) (by decide),?_⟩
  have:=mostI_le (fun x hx=>(hivs L hL x hx).1) (fun x hx=>(hivs L hL x hx).2) 115200
  exact Int.le_trans this (by decide)
 have hpab:∀{h':Heap} {a:Option Addr} {cap bm:Nat} {zs:List (Nat×ScS)},LeftAt ptrZ h' a cap zs->WF h'->h'.nx<=bm->∀b o oa,a=some ⟨b,o,oa⟩->b≠bm:=fun {h' a cap bm zs} hL hW hb b o oa e=>by
  obtain⟨⟨x,hx⟩,-⟩:=hL.pl b o oa e
  have:=hW _ _ hx
  omega
 have hmm:∀L:List CW,((L.map Prod.fst).map (ivZ t))=L.map (ivW t):=fun L=>by rw[List.map_map];rfl
 have hbw:bestW t v l=mostI (ws.map (ivW t)) 115200:=by unfold bestW;rw[hcI]
 have hW0:=hmI ws (fun _ h=>h)
 have hch:(chosenS t v l).map (fun c=>(c.2:Int))=(choP (ivW t) 115200 (bestW t v l) ws.length ws 0).map fun w=>(w.2:Int):=by
  unfold chosenS
  have e1:(canS t v l).length=ws.length:=by rw[<-hws,List.length_map]
  rw[e1,<-hws,choP_map (fun w:CW=>(w.1.2,w.2)) (fun c:ScS×Nat=>ivS t c.1) 115200,List.map_map]
  rfl
 rw[<-hbw] at hW0
 generalize hWq:bestW t v l=W at *
 refine zy ?_
 refine Wo_callr rfl rfl rfl rfl rfl Bod.h rfl rfl (program_sv hLA.li hSP) ?_
 rintro _ h4 ⟨d1,d2,d3,bm,rfl,hE4,⟨hbm0,n1,n2,n3⟩,hP⟩
 refine Wo_wf fun hw4=>?_
 have hgo:=progGo_sv hO hzs (by rw[List.length_map];omega) (hpab hLA hw3 hbm0) 115200 (by decide) h4 [] hP
 rw[hmm,show ((115200:Nat):Int)=115200 from rfl,<-hbw] at hgo
 refine zy ?_
 refine Wo_callr rfl rfl rfl rfl rfl Bod.h rfl rfl hgo ?_
 rintro _ h5 ⟨rfl,hX5,-⟩
 have hE5:Ext h3 h5:=hX5.ext hE4 hw3 fun c hc=>by rw[hc];exact hbm0
 clear hX5 hP hE4 hgo
 refine Wo_wf fun hw5=>?_
 refine zy ?_
 refine Wc.mono (Q:=fun z m' ds' h'=>z=.exit 0/\ds'=[]/\Ext h3 h'/\(∃vc,FreshSl h3 h' vc 3 1 (((choP (ivW t) 115200 W ws.length ws 0).map fun w=>(w.2:Int)).map i64) (choP (ivW t) 115200 W ws.length ws 0).length/\AllK m' [(6,vc),(7,i64 W),(8,.pointer (some ⟨b8,0,none⟩)),(10,.slice a (ws.map Prod.fst).length cap)])) (Wc_loop (fun (s:List CW×Option Addr×Nat×Value×List CW×Int) m ds h'=>ds=[]/\Ext h3 h'/\LeftAt ptrZ h' s.2.1 s.2.2.1 (s.1.map Prod.fst)/\s.1.Sublist ws/\FreshSl h3 h' s.2.2.2.1 3 1 ((s.2.2.2.2.1.map fun w=>(w.2:Int)).map i64) s.2.2.2.2.1.length ∧
   s.2.2.2.2.1++choP (ivW t) 115200 W s.1.length s.1 s.2.2.2.2.2=choP (ivW t) 115200 W ws.length ws 0/\s.2.2.2.2.1.length+s.1.length<=ws.length/\(0<=s.2.2.2.2.2/\s.2.2.2.2.2<=115201000000)/\(∀b o sp,s.2.1=some ⟨b,o,sp⟩->blkOf s.2.2.2.1≠some b) ∧
   AllK m [(6,s.2.2.2.1),(7,i64 W),(8,.pointer (some ⟨b8,0,none⟩)),(10,.slice a (ws.map Prod.fst).length cap),(11,.slice ai (ws.map Prod.snd).length ci),(12,.slice s.2.1 (s.1.map Prod.fst).length s.2.2.1),(13,i64 s.2.2.2.2.2)]) (fun s=>s.1.length) (ws,a,cap,.slice none 0 0,[],0) ?_ ?_) ?_
 ·exact⟨rfl,hE5,hLA.ext hE5,List.Sublist.refl _,FreshSl.nil _ _ _ _,rfl,(by simp),⟨Int.le_refl _,by show (0:Int)<=115201000000;decide⟩,(fun b o sp e q=>nomatch q),rfl,rfl,rfl,rfl,rfl,rfl,rfl,trivial⟩
 rotate_left
 ·clear hE5 hw5
  rintro _ m ds h6 ⟨rfl,rfl,hE6,vc,hFC,hall⟩
  show Wc _ _ _ _ _ _ _
  refine Wc_wf fun hw6=>?_
  refine Wc.le ?_ (Le.kn hall)
  refine zy ?_
  refine Wo_callr rfl rfl rfl rfl rfl Bod.h rfl rfl prices_sv ?_
  rintro _ h7 ⟨p1,rfl,hE7,hp1,k1⟩
  have hE37:=hE6.trans hE7
  refine zy ?_
  refine Wc_wf fun hw7=>?_
  refine Wc_rangeL rfl rfl Bod.h (fun e hs hL4 hEL hWL hnL hLr hLl=>?_)
  have hE3L:=hE37.trans hEL
  have kb8:=hE3L.get hg2
  have k1L:=hEL.get k1
  have hlp7:h7.nx+1<hL4.nx:=by omega
  generalize hlp:h7.nx+1=lp at *
  generalize hrg:h7.nx=rg at *
  have hb8a:∀b o sp,a=some ⟨b,o,sp⟩->b≠b8/\b<h3.nx:=fun b o sp e=>by
   obtain⟨⟨x,hx⟩,-⟩:=hLA.pl b o sp e
   have:=hab b o sp e
   exact⟨by omega,hw3 _ _ hx⟩
  have hshb:∀z∈ws.map Prod.fst,z.1≠b8/\z.1<h3.nx:=fun z hz=>by
   have hq:=hSP z hz
   refine⟨fun e=>?_,hw3 _ _ hq⟩
   unfold ShowAt at hq
   rw[e,hg2] at hq
   cases hq
  have hn37:=hE37.2.1
  have hE0L:Ext h hL4:=hE.trans hE3L
  have hb8L:b8<hL4.nx:=by omega
  have hnx0:=hE.2.1
  have hLAL:=hLA.ext hE3L
  have hSPL:=ShowsP.ext hSP hE3L
  generalize hrec:AO.loop LoopState.ready none _ _ _ _ _ _ _=rec at hLl
  let S:Nat->Prop:=fun b=>b=lp\/b=b8
  let J:Nat->Nat->List (Int×Int)->Heap->Prop:=fun bm n4 out h'=>(hL4.nx<=bm/\bm<n4/\n4<=h'.nx)/\Exb (fun c=>c=lp\/c=b8\/hL4.nx<=c) hL4 h'/\h'.get lp=some rec/\∃vp,h'.get b8=some (.cells [vp] 93 false)/\FreshSl h h' vp 110 2 (out.flatMap prRow) out.length/\∀c,blkOf vp=some c->n4<=c
  have hSn:∀c,(c=lp\/c=b8\/hL4.nx<=c)->h.nx<=c:=fun c hc=>by
   have:=hE0L.2.1
   rcases hc with e|e|e <;> omega
  refine (pricesIter_sv (l:=lp) (c1:=p1) (cap:=cap) (bH:=bH) (t:=t) (zs:=ws.map Prod.fst) hO hzs (by rw[List.length_map];exact hwl) k1L hLAL hSPL S (fun b hb=>by rcases hb with e|e <;> omega) J (fun h4 bm hE4 hb1 hb2=>?_) (fun bm n4 out h5 hJ=>?_) (fun bm n4 out h5 h6 hJ hX=>?_) (fun bm n4 out mi pr h5 hJ hout=>?_)).ret ?_
  ·exact⟨⟨hb1,hb2,Nat.le_refl _⟩,Exb.of hE4,hE4.get hLl,.slice none 0 0,hE4.get kb8,FreshSl.nil _ _ _ _,fun c q=>nomatch q⟩
  ·obtain⟨-,jX,-⟩:=hJ
   refine⟨hLAL.keep fun b o sp e x hx=>jX.get (fun q=>?_) hx,fun z hz=>jX.get (fun q=>?_) (hSPL z hz)⟩
   ·obtain⟨q1,q2⟩:=hb8a b o sp e
    rcases q with q|q|q <;> omega
   ·obtain⟨q1,q2⟩:=hshb z hz
    rcases q with q|q|q <;> omega
  ·obtain⟨⟨j1,j2,j3⟩,jX,jl,vp,jb,jF,jn⟩:=hJ
   exact⟨⟨j1,j2,Nat.le_trans j3 hX.2.1⟩,jX.trans (hX.mono fun c hc=>.inr (.inr (by rw[hc];exact j1))),hX.get (by omega) jl,vp,hX.get (by omega) jb,jF.keep fun b o hb hg=>hX.get (fun q=>by have:=jn b hb;omega) hg,jn⟩
  ·obtain⟨⟨j1,j2,j3⟩,jX,jl,vp,jb,jF,jn⟩:=hJ
   have hE05:Ext h h5:=jX.ext hE0L hw hSn
   subst hrec
   refine Yd_intro jl hs rfl rfl ?_
   refine Wc_wf fun hw5=>?_
   have ln5:=hw5 _ _ jl
   refine zy ?_
   refine⟨rfl,rfl,_,_,_,_,_,_,_,_,jl,?_⟩
   generalize hAO:AO.loop LoopState.busy _ _ _ _ _ _ _ _=bo
   have hU:=Upd.mk' h5 lp bo
   generalize h5.set lp bo=h7 at *
   have jb7:=hU.get (show b8≠lp by omega) jb
   have hX57:Exb (fun c=>S c\/n4<=c) h5 h7:=(Exb.refl _ _).upd hU (.inl (.inl rfl))
   have hE07:Ext h h7:=hU.ext hE05 hw (by omega)
   have jF7:FreshSl h h7 vp 110 2 (out.flatMap prRow) out.length:=jF.keep fun b o hb hg=>hU.get (fun q=>by have:=jn b hb;omega) hg
   have hl7:=hU.at'
   have n57:=hU.nx
   have hrl':(out++[(mi,pr)]).length=out.length+1:=by simp
   have hrm:(out++[(mi,pr)]).flatMap prRow=out.flatMap prRow++[i64 mi,i64 pr]:=by rw[List.flatMap_append];rfl
   refine zy ?_
   refine Wo_bs rfl rfl Und.h Tsz.h Zr.h rfl rfl rfl rfl rfl fun h8 hE8 hW8 hg8 hn8=>?_
   refine zy ?_
   refine Wo_appendF (k:=1) (l:=[i64 mi,i64 pr]) hw (hE07.trans hE8) rfl rfl rfl rfl rfl Und.h inferInstance rfl rfl (jF7.ext hE8) (asrc_row Und.h (by intro k;simp) (rowAt_cells hg8 rfl)) rfl rfl (by omega) (by omega) fun v9 h9 hF9 hE9 hK9 hn9 hb9=>?_
   rw[<-hrl',<-hrm] at hF9
   have jb9:=hK9 b8 _ (fun q=>by have:=jn b8 q;omega) (hE8.get jb7)
   have hl9:=hK9 lp _ (fun q=>by have:=jn lp q;omega) (hE8.get hl7)
   have hX89:Exb (fun c=>S c\/n4<=c) h8 h9:=⟨fun c o hc hg=>hK9 c o (fun q=>hc (.inr (jn c q))) hg,hn9,hE9.2.2.trans (hE07.trans hE8).2.2.symm⟩
   have hX79:=(hX57.trans (Exb.of hE8)).trans hX89
   have hv9:∀c,blkOf v9=some c->n4<=c/\c≠b8/\c≠lp:=fun c hc=>by
    have hq:n4<=c:=by
     rcases hb9 with g|⟨c',g1,g2⟩
     ·exact jn c (by rw[<-g];exact hc)
     ·have g3:some c'=some c:=g1.symm.trans hc
      cases g3
      have:=hE8.2.1
      omega
    exact⟨hq,by omega,by omega⟩
   obtain⟨a9,rfl,-⟩:=hF9.is
   refine zy ?_
   refine Wo_store rfl Tsz.h rfl rfl jb9 rfl rfl rfl fun h10 hU10=>?_
   refine zy ?_
   have hl10:=hU10.get (show lp≠b8 by omega) hl9
   subst hAO
   refine⟨none,.busy,none,_,_,e,_,_,_,_,rfl,hl10,rfl,?_⟩
   have hX10:Exb (fun c=>S c\/n4<=c) h5 h10:=hX79.upd hU10 (.inl (.inr rfl))
   refine⟨⟨⟨j1,j2,Nat.le_trans j3 (hX10.set _ (.inl (.inl rfl))).2.1⟩,jX.trans ((hX10.set _ (.inl (.inl rfl))).mono fun c hc=>?_),Heap.get_set_self _ _ _,_,(Heap.get_set_other _ (show b8≠lp by omega)).trans hU10.at',hF9.keep fun b o hb hg=>(Heap.get_set_other _ (hv9 b hb).2.2).trans (hU10.get (hv9 b hb).2.1 hg),fun c hc=>(hv9 c hc).1⟩,hX10.set _ (.inl (.inl rfl))⟩
   rcases hc with (q|q)|q
   ·exact .inl q
   ·exact .inr (.inl q)
   ·exact .inr (.inr (by omega))
  ·rintro _ h5 ⟨bm,n4,E,hEn,⟨j1,j2,j3⟩,jX,jl,vp,jb,jF,jn⟩
   subst hrec
   refine⟨.ready,none,_,_,_,_,_,_,_,jl,by simp,fun _=>?_,fun c hc=>nomatch hc⟩
   generalize hAO:AO.loop LoopState.exhausted _ _ _ _ _ _ _ _=bo
   have hU:=Upd.mk' h5 lp bo
   generalize h5.set lp bo=h8 at *
   have jb8:=hU.get (show b8≠lp by omega) jb
   obtain⟨aV,nV,rfl⟩:∃aV nV,vp=.slice aV nV nV:=by obtain⟨a,e,-⟩:=jF.is;exact⟨a,_,e⟩
   show Wc _ _ _ _ _ _ _
   refine zy ?_
   refine Wc_draw hmix [0,0,0,1,11,31,63] [0,1,2] (some 3) [([],(some 4)),([],(some 5)),([],(some 6)),([],none)] (by kernel_rfl) (by kernel_rfl) ?_
   refine z_m ?_;refine z_m ?_;refine z_l ?_
   refine Wp_eff [0] (by kernel_rfl) rfl (Stl_nil rfl) rfl nb rfl (W1_op rfl rfl (A_assign rfl) ?_)
   refine Wp_eff [0,1,3] (by kernel_rfl) rfl (by refine t_l 2 ?_;refine t_m 1 ?_;exact Stl_nil rfl) rfl nb rfl (W1_op rfl rfl (A_assign rfl) ?_)
   refine Wp_eff [0,1,2,3,4] (by kernel_rfl) rfl (by refine t_l 2 ?_;exact Stl_nil rfl) rfl nb rfl (W1_store rfl rfl Tsz.h rfl rfl jb8 rfl rfl rfl (fun h10 hU10=>?_))
   refine Wp_eff [0,1,2,3,4,5] (by kernel_rfl) rfl (Stl_nil rfl) rfl nb rfl (W1_op rfl rfl (A_assign rfl) ?_)
   refine Wp_end (Stl_nil rfl) nb' ?_
   have hXf:Exb (fun c=>c=lp\/c=b8\/hL4.nx<=c) hL4 h10:=(jX.upd hU (.inl rfl)).upd hU10 (.inr (.inl rfl))
   have hd1:∀{c:Nat} {o:AO},c≠rg->h10.get c=some o->(delL h10 [rg]).get c=some o:=fun {c o} hc hg=>by
    rw[delL_get (fun q=>hc (List.mem_singleton.1 q))];exact hg
   have hrg10:h10.get rg=some .defd:=hXf.get (fun q=>by rcases q with q|q|q <;> omega) hLr
   have hvcb:∀c,blkOf vc=some c->c<h6.nx/\h3.nx<=c:=fun c hc=>by
    obtain⟨op,hq⟩:=hFC.got hc
    refine⟨hw6 _ _ hq,?_⟩
    ·rcases hFC with ⟨rfl,-,-⟩|⟨b,sp,op,rfl,-,-,hb,-⟩
     ·cases hc
     ·cases hc;exact hb
   have n67:=hE7.2.1
   have hcn:((choP (ivW t) 115200 W ws.length ws 0).map fun w=>(w.2:Int))=(chosenS t v l).map fun c=>(c.2:Int):=hch.symm
   have hcl:(choP (ivW t) 115200 W ws.length ws 0).length=(chosenS t v l).length:=by
    have:=congrArg List.length hcn
    rw[List.length_map,List.length_map] at this
    exact this
   refine zy ?_
   refine Wc_ret (Lv_retC (rs:=[rg]) (by simp) (fun x hx=>by rw[List.mem_singleton.1 hx];exact hrg10) (vs:=[vc,i64 W,.slice aV nV nV,i64 0]) (resk_tmp rfl (resk_tmp rfl (resk_cell rfl (aload_cell OneC.h (cellAt_cells (hd1 (by omega) hU10.at') rfl)) (resk_tmp rfl rfl)))) ⟨(hXf.ext hE0L hw hSn).delL hw (fun x hx=>by rw[List.mem_singleton.1 hx];omega),.inr ⟨he,vc,.slice aV nV nV,E,?_,?_,?_,?_⟩⟩)
   ·rw[hWq];rfl
   ·rw[<-hcl,<-hcn]
    refine FreshSl.base (h1:=h3) (hFC.keep fun b o hb hg=>?_) hnx0
    obtain⟨q1,q2⟩:=hvcb b hb
    exact hd1 (by omega) (hXf.get (fun q=>by rcases q with q|q|q <;> omega) (hEL.get (hE7.get hg)))
   ·rw[hcI];rw[hmm] at hEn;exact hEn
   ·rw[hcI]
    rw[hmm] at jF
    refine jF.keep fun b o hb hg=>?_
    have:=jn b hb
    exact hd1 (by omega) (hU10.get (by omega) (hU.get (by omega) hg))
 clear hE5 hw5
 rintro⟨L,aL,cL,vc,C,sum⟩ m ds h6 ⟨rfl,hE6,hLL,hsub,hFC,hCh,hCl,⟨hs0,hs1⟩,hne,hall⟩
 simp only at hLL hsub hFC hCh hCl hs0 hs1 hne hall
 refine Wc_wf fun hw6=>?_
 refine Wc.le ?_ (Le.kn hall)
 refine zy ?_
 have hnil:∀{s:Int},L=[]->choP (ivW t) 115200 W L.length L s=[]:=fun {s} e=>by rw[e];rfl
 by_cases h1:sum<W
 rotate_left
 ·have hC:C=choP (ivW t) 115200 W ws.length ws 0:=by
   rw[<-hCh]
   cases L with
   | nil=>simp[choP]
   | cons w L=>rw[List.length_cons,choP,if_pos (by omega),List.append_nil]
  refine Wo_do rfl rfl rfl rfl (A_ff h1 (A_lss rfl rfl)) ?_
  refine zy ?_
  exact⟨rfl,rfl,hE6,vc,by rw[<-hC];exact hFC,rfl,rfl,rfl,rfl,trivial⟩
 refine Wo_do rfl rfl rfl rfl (A_tt h1 (A_lss rfl rfl)) ?_
 refine zy ?_
 refine Wo_dec rfl rfl rfl rfl (A_gtr rfl rfl) (fun h2=>?_) (fun h2=>?_)
 rotate_left
 ·have hLn:L=[]:=by
   cases L with
   | nil=>rfl
   | cons w L=>exact absurd (by simp only[List.map_cons,List.length_cons];omega) h2
  have hC:C=choP (ivW t) 115200 W ws.length ws 0:=by rw[<-hCh,hnil hLn,List.append_nil]
  refine zy ?_
  exact⟨rfl,rfl,hE6,vc,by rw[<-hC];exact hFC,rfl,rfl,rfl,rfl,trivial⟩
 cases L with
 | nil=>exact absurd h2 (by simp)
 | cons w L =>
 have hw6m:w∈ws:=hsub.subset List.mem_cons_self
 have hLm:∀u∈L,u∈ws:=fun u hu=>hsub.subset (List.mem_cons_of_mem _ hu)
 have hLsub:L.Sublist ws:=(List.sublist_cons_self w L).trans hsub
 have hx0:=hsh w hw6m
 have hSx:=(hSP w.1 (List.mem_map_of_mem hw6m)).ext hE6
 have hne0:(w::L).map Prod.fst≠[]:=by simp
 obtain⟨ba,oa,spa,rfl,-⟩:=hLL.at' hne0
 have hc0:cellAt h6 ba (oa+0*1)=some (ptrZ w.1):=by
  obtain⟨b1,o1,s1,e1,hc⟩:=hLL.li 0 (by simp)
  cases e1;exact hc
 have hawm:∀u∈awayA (ivW t) w L,u∈ws:=fun u hu=>hLm u (List.mem_filter.1 hu).1
 have hawl:=awayA_len (ivW t) w L
 have haws:(awayA (ivW t) w L).Sublist ws:=List.filter_sublist.trans hLsub
 have hdel:=away_del hO hx0 (L:=L) (fun u hu=>by rw[hvn u (hLm u hu),hvn w hw6m])
 have hstepC:choP (ivW t) 115200 W (w::L).length (w::L) sum=if sum+w.1.2.worth+mostI ((awayA (ivW t) w L).map (ivW t)) 115200=W then w::choP (ivW t) 115200 W (awayA (ivW t) w L).length (awayA (ivW t) w L) (sum+w.1.2.worth) else choP (ivW t) 115200 W L.length L sum:=by
  rw[List.length_cons,choP,if_neg (by omega)]
  show (if sum+w.1.2.worth+mostI ((awayA (ivW t) w L).map (ivW t)) 115200=W then _ else _)=_
  rw[choP_fuel (ivW t) 115200 (f:=L.length) (g:=(awayA (ivW t) w L).length) hawl (Nat.le_refl _)]
  rfl
 have hbest:=hmI (awayA (ivW t) w L) hawm
 obtain⟨-,-,-,-,w1,w2⟩:=shown_ok hx0
 have hwsP:∀{h':Heap},Ext h3 h'->∀z∈(w::L).map Prod.fst,ShowAt h' z.1 bH t z.2:=fun hE' z hz=>(hSP z (by
  obtain⟨u,hu,rfl⟩:=List.mem_map.1 hz
  exact List.mem_map_of_mem (hsub.subset hu))).ext hE'
 have hwz0:∀z∈(w::L).map Prod.fst,shownErr t z.2=0:=fun z hz=>by
  obtain⟨u,hu,rfl⟩:=List.mem_map.1 hz
  exact hsh u (hsub.subset hu)
 refine zy ?_
 refine Wo_do rfl rfl rfl rfl (A_indexAddr (k:=0) Und.h Tsz.h rfl rfl rfl (by simp)) ?_
 refine zy ?_
 refine Wo_callr rfl rfl rfl rfl rfl Bod.h rfl rfl (cloneA_sv (hLL.srcAt hne0) (hLL.none hne0) (by have:=hsub.length_le;rw[List.length_map];omega)) ?_
 rintro vk h7 ⟨hFk,hE7⟩
 refine Wo_wf fun hw7=>?_
 have hE67:=hE6.trans hE7
 rcases hFk with ⟨-,e0,-⟩|⟨bk,spk,opk',rfl,hgk,-,hbk,hspk⟩
 ·exact absurd (List.map_eq_nil_iff.1 e0) hne0
 have hbk7:=hw7 _ _ hgk
 refine zy ?_
 refine Wo_callr rfl rfl rfl rfl rfl Bod.h rfl rfl (deleteZ_sv (p:=fun z=>distB t w.1.2 z.2) hgk hspk Bod.h (fun h8 hX8 z hz=>disturbs_sv (hX8.get (fun q=>?_) (hwsP hE67 w.1 (List.mem_cons_self))) (hX8.get (fun q=>?_) (hwsP hE67 z hz)) hO hx0 (hwz0 z hz)) (by have:=hsub.length_le;rw[List.length_map];omega)) ?_
 ·have:=hw6 _ _ hSx
  omega
 ·have:=hw6 _ _ (hwsP hE6 z hz)
  omega
 rintro _ h8 ⟨cw,vw,rfl,hcw,hX8,hg8⟩
 refine Wo_wf fun hw8=>?_
 rw[hdel] at hcw hg8 ⊢
 have hE68:Ext h6 h8:=hX8.ext hE7 hw6 fun c hc=>by rw[hc];exact hbk
 have hE38:=hE6.trans hE68
 have hLW:LeftAt ptrZ h8 (some ⟨bk,0,spk⟩) cw ((awayA (ivW t) w L).map Prod.fst):=⟨fun i hi=>⟨bk,0,spk,rfl,cellAt_cells hg8 (by
  rw[nth_eq,Nat.zero_add,Nat.mul_one,List.getElem?_append_left (by rw[List.length_map];exact hi),List.getElem?_map,List.getElem?_eq_getElem hi];rfl)⟩,hcw,fun b o sp e=>by cases e;exact⟨⟨_,hg8⟩,fun _=>hspk⟩⟩
 have hSPW:∀{h':Heap},Ext h3 h'->ShowsP h' bH t ((awayA (ivW t) w L).map Prod.fst):=fun hE' z hz=>(hSP z (by
  obtain⟨u,hu,rfl⟩:=List.mem_map.1 hz
  exact List.mem_map_of_mem (hawm u hu))).ext hE'
 have hprog:=program_sv (cap:=cw) hLW.li (hSPW hE38)
 have hSx8:=hSx.ext hE68
 have hk8:=hE38.get hg2
 generalize hAW:awayA (ivW t) w L=AW at *
 have hFC8:=hFC.ext hE68
 have kx8:=hSx8
 unfold ShowAt shRow at kx8
 have hvcb:∀c,blkOf vc=some c->c<h6.nx:=fun c hc=>by
  obtain⟨op,hq⟩:=hFC.got hc
  exact hw6 _ _ hq
 refine zy ?_
 by_cases htk:sum+w.1.2.worth+mostI (AW.map (ivW t)) 115200=W
 ·rw[if_pos htk] at hstepC
  refine Wc_draw hmix [0,0,2,6,14,30,63,0,128,384,1023,0,4095] [0,1,2,3,4,5,6,7,11] (some 8) [([],(some 9)),([10,12],none)] (by kernel_rfl) (by kernel_rfl) ?_
  refine z_m ?_;refine z_m ?_;refine z_q ?_;refine z_f ?_;refine z_f ?_;refine z_l ?_;refine Wp_pure rfl rfl rfl rfl rfl (fun _=>A_add rfl rfl (by omega) (by omega)) ?_;refine z_m ?_;refine z_m ?_
  refine Wp_eff [7] (by kernel_rfl) rfl (Stl_nil rfl) rfl nb rfl (W1_callR rfl rfl rfl rfl rfl Bod.h hprog (fun v9 h9 hR=>?_))
  obtain⟨q1,q2,q3,qm,rfl,hE9,⟨nq,m1,m2,m3⟩,hP9⟩:=hR
  have kx9:=hE9.get kx8
  have hgo9:=progGo_sv hO (fun z hz=>hzs z (haws.map Prod.fst |>.subset hz)) (by rw[List.length_map];have:=haws.length_le;omega) (hpab hLW hw8 nq) 115200 (by decide) h9 [] hP9
  rw[hmm,show ((115200:Nat):Int)=115200 from rfl] at hgo9
  refine Wp_eff [7,8] (by kernel_rfl) rfl (by refine t_m 11 ?_;refine Stl_pure (i:=6) rfl rfl rfl rfl rfl (fun _=>A_add rfl rfl (by omega) (by omega)) rfl ?_;refine t_l 5 ?_;refine t_f 4 ?_;refine t_f 3 ?_;refine t_q 2 ?_;refine t_m 1 ?_;refine t_m 0 ?_;exact Stl_nil rfl) rfl nb rfl (W1_wfK (W1_callR rfl rfl rfl rfl rfl Bod.h hgo9 (fun v10 h10 hR hw10=>?_)))
  obtain⟨rfl,hX10,-⟩:=hR
  have hE80:Ext h8 h10:=hX10.ext hE9 hw8 fun c hc=>by rw[hc];exact nq
  have kx10:=hE80.get kx8
  refine Wp_pure rfl rfl rfl rfl rfl (fun _=>A_add rfl rfl (by omega) (by omega)) ?_;refine Wp_pure rfl rfl rfl rfl rfl (fun _=>A_tt htk (A_eql rfl rfl)) ?_
  refine Wp_end (by refine t_m 11 ?_;refine Stl_pure (i:=6) rfl rfl rfl rfl rfl (fun _=>A_add rfl rfl (by omega) (by omega)) rfl ?_;refine t_l 5 ?_;refine t_f 4 ?_;refine t_f 3 ?_;refine t_q 2 ?_;refine t_m 1 ?_;refine t_m 0 ?_;exact Stl_nil rfl) nb' ?_
  refine zy ?_
  obtain⟨kk,hkk,ekk⟩:=List.getElem_of_mem hw6m
  have hkm:kk<(ws.map Prod.fst).length:=by rw[List.length_map];exact hkk
  have hkl:kk<(ws.map Prod.snd).length:=by rw[List.length_map];exact hkk
  have ekk1:(ws.map Prod.fst)[kk]=w.1:=by rw[List.getElem_map,ekk]
  obtain⟨bi,oi,si,rfl,hci⟩:=hIn kk (by rw[List.length_map];exact hkk)
  rw[List.getElem_map,ekk] at hci
  have hE310:=hE38.trans hE80
  have hci10:=hE310.cell hci
  have hix:=indexZ_sv (k:=kk) (cap:=cap) (hLA.li.ext hE310) (fun z hz=>⟨_,_,_,hE310.get (hSP z hz)⟩) hkm (fun j hj=>by
   have hn:=List.pairwise_iff_getElem.1 hnd j kk (by rw[List.length_map];omega) (by rw[List.length_map];exact hkk) hj
   rw[List.getElem_map,List.getElem_map] at hn
   rw[List.getElem_map,List.getElem_map]
   exact hn) (by rw[List.length_map];omega)
  rw[ekk1] at hix
  have hgl':(C++[w]).length=C.length+1:=by simp
  have hgm:((C++[w]).map fun w=>(w.2:Int)).map i64=(C.map fun w=>(w.2:Int)).map i64++[i64 (w.2:Int)]:=by simp
  have hEa:Ext h10 (h10.add (.cells [i64 (w.2:Int)] 3 false)):=Ext.add hw10 _
  have kxa:=hEa.get kx10
  have hn310:=hE310.2.1
  refine Wc_draw hmix [0,0,0,0,12,30,62,126,255,0,0,1024,3072,7168,15360,32256,0,511,196607,524287] [0,1,2,3,9,10,11,12,13,14,15,16] (some 4) [([5,6,7],(some 8)),([],(some 17)),([],(some 18)),([],(some 19)),([],none)] (by kernel_rfl) (by kernel_rfl) ?_
  refine z_m ?_;refine z_m ?_;refine z_m ?_;refine z_m ?_;refine z_m ?_;refine z_m ?_;refine z_q ?_;refine z_f ?_;refine z_f ?_;refine z_l ?_;refine Wp_pure rfl rfl rfl rfl rfl (fun _=>A_add rfl rfl (by omega) (by omega)) ?_;refine z_m ?_
  refine Wp_eff [2,3] (by kernel_rfl) rfl (Stl_nil rfl) rfl nb rfl (W1_callV rfl rfl rfl rfl rfl Bod.h hix ?_)
  refine Wp_pure rfl rfl rfl rfl rfl (fun _=>A_ix (k:=kk) Und.h Tsz.h rfl rfl) ?_;refine z_l ?_
  refine Wp_new (nk:=.sl _ _) rfl rfl rfl rfl rfl (fun _ _ hs=>N_bs hs Und.h Tsz.h Zr.h rfl rfl rfl rfl rfl) ?_
  refine Wp_eff (h1:=(Heap.add h10 _)) [0,1,2,3,4,5,6,7] (by kernel_rfl) rfl (by refine t_m 16 ?_;refine Stl_pure (i:=15) rfl rfl rfl rfl rfl (fun _=>A_add rfl rfl (by omega) (by omega)) rfl ?_;refine t_l 14 ?_;refine t_f 13 ?_;refine t_f 12 ?_;refine t_q 11 ?_;refine t_m 10 ?_;refine t_m 9 ?_;refine t_m 1 ?_;refine t_m 0 ?_;exact Stl_nil rfl) rfl rfl rfl (W1_wfK (W1_appendF (by':=8) (sz:=1) (k:=1) (n:=C.length) (l:=[i64 (w.2:Int)]) rfl hw3 (hw10.add _) (hE310.trans hEa) rfl rfl rfl rfl Und.h inferInstance rfl rfl ((hFC8.ext hE80).ext hEa) ((FreshSl.lit (h0:=h3) (n:=1) (sz:=1) Heap.get_add_same rfl hn310).src (dd:=.slice 3) Und.h (by intro k;simp)) rfl rfl (by omega) (by omega) (fun v11 h11 hF11 hE11 hK11 hn11 hb11 hw11=>?_)))
  rw[<-hgl',<-hgm] at hF11
  have kx11:h11.get w.1.1=_:=hE11.get (hSP w.1 (List.mem_map_of_mem hw6m))
  unfold shRow at kx11
  refine Wp_eff (h1:=h11) [0,1,2,3,4,5,6,7,8] (by kernel_rfl) rfl (by refine t_m 16 ?_;refine Stl_pure (i:=15) rfl rfl rfl rfl rfl (fun _=>A_add rfl rfl (by omega) (by omega)) rfl ?_;refine t_l 14 ?_;refine t_f 13 ?_;refine t_f 12 ?_;refine t_q 11 ?_;refine t_m 10 ?_;refine t_m 9 ?_;exact Stl_nil rfl) rfl rfl rfl (W1_op rfl rfl (A_assign rfl) ?_)
  refine Wp_eff (h1:=h11) [0,1,2,3,4,5,6,7,8,9,10,11,12,13,14,15,17] (by kernel_rfl) rfl (by refine t_m 16 ?_;refine Stl_pure (i:=15) rfl rfl rfl rfl rfl (fun _=>A_add rfl rfl (by omega) (by omega)) rfl ?_;refine t_l 14 ?_;refine t_f 13 ?_;refine t_f 12 ?_;refine t_q 11 ?_;refine t_m 10 ?_;refine t_m 9 ?_;exact Stl_nil rfl) rfl rfl rfl (W1_op rfl rfl (A_assign rfl) ?_)
  refine Wp_eff (h1:=h11) [0,1,2,3,4,5,6,7,8,9,10,11,12,13,14,15,16,17,18] (by kernel_rfl) rfl (by refine t_m 16 ?_;exact Stl_nil rfl) rfl rfl rfl (W1_op rfl rfl (A_assign rfl) ?_)
  refine Wp_end (h1:=h11) (Stl_nil rfl) rfl ?_
  refine zy ?_
  have hnxa:(h10.add (.cells [i64 (w.2:Int)] 3 false)).nx=h10.nx+1:=rfl
  have hbk10:bk<h10.nx:=hw10 _ _ (hE80.get hg8)
  refine⟨(AW,some ⟨bk,0,spk⟩,cw,v11,C++[w],sum+w.1.2.worth),?_,rfl,hE11,?_,haws,hF11,?_,?_,⟨by show 0<=sum+w.1.2.worth;omega,by show sum+w.1.2.worth<=115201000000;omega⟩,?_,rfl,rfl,rfl,rfl,rfl,rfl,rfl,trivial⟩
  ·show AW.length<L.length+1
   omega
  ·exact (hLW.ext hE80).keep fun b o sp e x hx=>hK11 b x (fun q=>by cases e;have:=hvcb _ q;omega) (hEa.get hx)
  ·show (C++[w])++choP (ivW t) 115200 W AW.length AW (sum+w.1.2.worth)=_
   rw[<-hCh,hstepC,List.append_assoc]
   rfl
  ·show (C++[w]).length+AW.length<=ws.length
   have:C.length+(L.length+1)<=ws.length:=hCl
   omega
  ·intro b o sp e q
   cases e
   rcases hb11 with g|⟨c,g1,g2⟩
   ·rw[g] at q
    have:=hvcb _ q
    omega
   ·have g3:some c=some bk:=g1.symm.trans q
    cases g3
    have g4:h10.nx+1<=bk:=g2
    omega
 ·rw[if_neg htk] at hstepC
  refine Wc_draw hmix [0,0,2,6,14,30,63,0,128,384,1023,0,4095] [0,1,2,3,4,5,6,7,11] (some 8) [([],(some 9)),([10,12],none)] (by kernel_rfl) (by kernel_rfl) ?_
  refine z_m ?_;refine z_m ?_;refine z_q ?_;refine z_f ?_;refine z_f ?_;refine z_l ?_;refine Wp_pure rfl rfl rfl rfl rfl (fun _=>A_add rfl rfl (by omega) (by omega)) ?_;refine z_m ?_;refine z_m ?_
  refine Wp_eff [7] (by kernel_rfl) rfl (Stl_nil rfl) rfl nb rfl (W1_callR rfl rfl rfl rfl rfl Bod.h hprog (fun v9 h9 hR=>?_))
  obtain⟨q1,q2,q3,qm,rfl,hE9,⟨nq,m1,m2,m3⟩,hP9⟩:=hR
  have kx9:=hE9.get kx8
  have hgo9:=progGo_sv hO (fun z hz=>hzs z (haws.map Prod.fst |>.subset hz)) (by rw[List.length_map];have:=haws.length_le;omega) (hpab hLW hw8 nq) 115200 (by decide) h9 [] hP9
  rw[hmm,show ((115200:Nat):Int)=115200 from rfl] at hgo9
  refine Wp_eff [7,8] (by kernel_rfl) rfl (by refine t_m 11 ?_;refine Stl_pure (i:=6) rfl rfl rfl rfl rfl (fun _=>A_add rfl rfl (by omega) (by omega)) rfl ?_;refine t_l 5 ?_;refine t_f 4 ?_;refine t_f 3 ?_;refine t_q 2 ?_;refine t_m 1 ?_;refine t_m 0 ?_;exact Stl_nil rfl) rfl nb rfl (W1_wfK (W1_callR rfl rfl rfl rfl rfl Bod.h hgo9 (fun v10 h10 hR hw10=>?_)))
  obtain⟨rfl,hX10,-⟩:=hR
  have hE80:Ext h8 h10:=hX10.ext hE9 hw8 fun c hc=>by rw[hc];exact nq
  have kx10:=hE80.get kx8
  refine Wp_pure rfl rfl rfl rfl rfl (fun _=>A_add rfl rfl (by omega) (by omega)) ?_;refine Wp_pure rfl rfl rfl rfl rfl (fun _=>A_ff htk (A_eql rfl rfl)) ?_
  refine Wp_end (by refine t_m 11 ?_;refine Stl_pure (i:=6) rfl rfl rfl rfl rfl (fun _=>A_add rfl rfl (by omega) (by omega)) rfl ?_;refine t_l 5 ?_;refine t_f 4 ?_;refine t_f 3 ?_;refine t_q 2 ?_;refine t_m 1 ?_;refine t_m 0 ?_;exact Stl_nil rfl) nb' ?_
  refine zy ?_
  obtain⟨at1,ct1,hTl,hTb,hTA⟩:=A_tail (P:=Tryz.prog) (t:=177) (el:=152) (kj:=.i64) (show LeftAt ptrZ h10 (some ⟨ba,oa,spa⟩) cL (w.1::L.map Prod.fst) from hLL.ext (hE68.trans hE80)) Und.h Tsz.h
  refine Wo_do rfl rfl rfl rfl (hTA rfl rfl) ?_
  refine zy ?_
  refine⟨(L,at1,ct1,vc,C,sum),(by show L.length<L.length+1;omega),rfl,hE38.trans hE80,hTl,hLsub,hFC8.ext hE80,?_,?_,⟨hs0,hs1⟩,?_,rfl,rfl,rfl,rfl,rfl,rfl,rfl,trivial⟩
  ·show C++choP (ivW t) 115200 W L.length L sum=_
   rw[<-hCh,hstepC]
  ·show C.length+L.length<=ws.length
   have:C.length+(L.length+1)<=ws.length:=hCl
   omega
  ·intro b o sp e q
   obtain⟨o',sp',e'⟩:=hTb b o sp e
   exact hne b o' sp' e' q
end Go.Dw
/- BD: contracts: Cover, in the program and in the reference; prices compared. -/
namespace Go.Dw
open Go Go.Dx Go.Proofs
set_option maxRecDepth 100000
def PrR (_:Heap)(row:List Value)(q:Int×Int):Prop:=row=[i64 q.1,i64 q.2]
def prGo:Int->List (Int×Int)->Int
 | _,[]=>0
 | bef,q::Q=>if (q.1<0\/115200<q.1)\/(q.2<1\/40000000<q.2) then 7 else if q.1<=bef then 2 else prGo q.1 Q
def coverE (t:ScT)(v:Int)(l:List ScS)(Q:List (Int×Int)):Int:=if candErr t v l≠0 then candErr t v l else if 80<Q.length then 3 else prGo (-1) Q
def failS (t:ScT)(Q:List (Int×Int))(c:ScS×Nat):Bool:=decide (coverI Q (ivS t c.1)<c.1.worth)
def coverS (t:ScT)(v:Int)(l:List ScS)(Q:List (Int×Int)):Int×Int×Int :=
 if coverE t v l Q≠0 then (0,0,coverE t v l Q) else match (canS t v l).find? (failS t Q) with
 | some c=>(0,(c.2:Int),0)
 | none=>(totalI Q,-1,0)
theorem prGo_drop {bef:Int}{Q:List (Int×Int)}{k:Nat}(hk:k<Q.length):prGo bef (Q.drop k)=if (Q[k].1<0\/115200<Q[k].1)\/(Q[k].2<1\/40000000<Q[k].2) then 7 else if Q[k].1<=bef then 2 else prGo Q[k].1 (Q.drop (k+1)):=by
 rw[List.drop_eq_getElem_cons hk,prGo]
theorem prGo_ok:∀{Q:List (Int×Int)}{bef:Int},prGo bef Q=0->∀q∈Q,(0<=q.1/\q.1<=115200)/\1<=q.2/\q.2<=40000000
 | [],_,_,_,h=>absurd h List.not_mem_nil
 | q::Q,bef,h,x,hx=>by
  rw[prGo] at h
  split at h
  ·cases h
  split at h
  ·cases h
  rcases List.mem_cons.1 hx with rfl|hx
  ·omega
  ·exact prGo_ok h x hx
theorem totalI_take {Q:List (Int×Int)}{k:Nat}(hk:k<Q.length):totalI (Q.take (k+1))=totalI (Q.take k)+Q[k].2:=by
 unfold totalI
 rw[List.take_add_one,List.getElem?_eq_getElem hk,List.map_append,List.sum_append]
 show _+(Q[k].2+0)=_
 rw[Int.add_zero]
theorem coverI_take {Q:List (Int×Int)}{x:Iv}{k:Nat}(hk:k<Q.length):coverI (Q.take (k+1)) x=if x.s<=Q[k].1/\Q[k].1<=x.e-1 then coverI (Q.take k) x+Q[k].2 else coverI (Q.take k) x:=by
 unfold coverI
 rw[List.take_add_one,List.getElem?_eq_getElem hk,List.filter_append,List.map_append,List.sum_append]
 by_cases h:x.s<=Q[k].1/\Q[k].1<=x.e-1
 ·rw[if_pos h];simp[h]
 ·rw[if_neg h];simp[h]
theorem total_rng {Q:List (Int×Int)}(h:∀q∈Q,1<=q.2/\q.2<=40000000):0<=totalI Q/\totalI Q<=40000000*Q.length:=by
 unfold totalI
 induction Q with
 | nil=>simp
 | cons q Q ih =>
  have h1:=h q List.mem_cons_self
  have h2:=ih fun x hx=>h x (List.mem_cons_of_mem _ hx)
  rw[List.map_cons,List.sum_cons,List.length_cons]
  omega
theorem cover_rng {Q:List (Int×Int)}{x:Iv}(h:∀q∈Q,1<=q.2/\q.2<=40000000):0<=coverI Q x/\coverI Q x<=40000000*Q.length:=by
 have h1:=total_rng (Q:=Q.filter fun q=>decide (x.s<=q.1/\q.1<=x.e-1)) fun q hq=>h q (List.mem_filter.1 hq).1
 have h2:=List.length_filter_le (fun q:Int×Int=>decide (x.s<=q.1/\q.1<=x.e-1)) Q
 unfold coverI
 unfold totalI at h1
 omega
theorem coverS_bad {t:ScT}{v:Int}{l:List ScS}{Q:List (Int×Int)}(h:¬coverE t v l Q=0):coverS t v l Q=(0,0,coverE t v l Q):=by unfold coverS;rw[if_pos h]
theorem coverS_at {t:ScT}{v:Int}{l:List ScS}{Q:List (Int×Int)}{c:ScS×Nat}(h:coverE t v l Q=0)(hf:(canS t v l).find? (failS t Q)=some c):coverS t v l Q=(0,(c.2:Int),0):=by unfold coverS;rw[if_neg (fun q=>q h),hf]
theorem coverS_no {t:ScT}{v:Int}{l:List ScS}{Q:List (Int×Int)}(h:coverE t v l Q=0)(hf:∀c∈canS t v l,failS t Q c=false):coverS t v l Q=(totalI Q,-1,0):=by
 unfold coverS
 rw[if_neg (fun q=>q h),List.find?_eq_none.2 fun c hc=>by rw[hf c hc];simp]
def covV (r:Int×Int×Int):Value:=.tuple ⟨[i64 r.1,i64 r.2.1,i64 r.2.2]⟩
set_option maxHeartbeats 16000000 in
theorem scCover_sv {tc:List Value}{t:ScT}{v:Int}{l:List ScS}{Q:List (Int×Int)}{al aq:Option Addr}{cl cq:Nat}{h:Heap}(ht:ScTAt h tc t)(hT:t.Fit)(hv:I64 v)(hl:RowsAt 6 ScSR h al l)(hlF:∀s∈l,s.Fit)(hL:Len l)(hQ:RowsAt 2 PrR h aq Q)(hLQ:Len Q):Sv Tryz.prog 45 [.agg ⟨tc⟩,i64 v,.slice al l.length cl,.slice aq Q.length cq] h (RetP fun r h'=>r=covV (coverS t v l Q)/\Ext h h'):=by
 have ht0:=ht
 obtain⟨xl,cxl,at',ct,a1,c1,a2,c2,a3,c3,a4,c4,a5,c5,a6,c6,rfl,-⟩:=ht
 refine Sv_wf fun hw=>?_
 refine Sv_enter Tryz.func45 rfl (by rw[Tryz.ntmps45];rfl) ?_;show Wc Tryz.prog ⟨45,107,none⟩ _ _ _ _ _
 refine zy ?_
 refine Wo_box rfl rfl rfl fun h2 hE2 hW2 hg2 hn2=>?_
 refine zy ?_
 refine Wo_callr rfl rfl rfl rfl rfl Bod.h rfl rfl (candidates_sv (ht0.ext hE2) hT hv (RowsAt.ext (R:=ScSR) (fun x _=>x) hl hE2) hlF hL) ?_
 rintro _ h3 ⟨hE3,⟨he,rfl⟩|⟨he,hO,-,a,cap,ai,ci,bH,ws,rfl,hws,hLA,hIn,hSP,hHo,hnd,hwl,hsh,hab⟩⟩
 ·have e:coverE t v l Q=candErr t v l:=by unfold coverE;rw[if_pos he]
  have e2:=coverS_bad (t:=t) (v:=v) (l:=l) (Q:=Q) (by rw[e];exact he)
  rw[e2,e]
  refine zy ?_
  refine Wo_dec rfl rfl rfl rfl (A_neq rfl rfl) (fun h4=>?_) (fun h4=>?_)
  ·refine zy ?_
   exact Wc_ret (Lv_ret rfl ⟨rfl,hE2.trans hE3⟩)
  ·exact absurd (Decidable.not_not.1 h4) he
 have hE:=hE2.trans hE3
 clear hE2 hE3 hg2 hW2 hn2 hab
 clear h2
 replace hQ:=RowsAt.ext (R:=PrR) (fun x _=>x) hQ hE
 have hEz:candErr t v l=0->coverE t v l Q=if 80<Q.length then 3 else prGo (-1) Q:=fun he=>by unfold coverE;rw[if_neg (fun q=>q he)]
 replace hEz:=hEz he
 refine zy ?_
 refine Wo_dec rfl rfl rfl rfl (A_neq rfl rfl) (fun h4=>?_) (fun h4=>?_)
 ·exact absurd rfl h4
 clear h4
 refine zy ?_
 refine Wo_dec rfl rfl rfl rfl (A_gtr rfl rfl) (fun h4=>?_) (fun h4=>?_)
 ·rw[if_pos (by omega)] at hEz
  rw[coverS_bad (by rw[hEz];decide),hEz]
  refine zy ?_
  exact Wc_ret (Lv_ret rfl ⟨rfl,hE⟩)
 rw[if_neg (by omega)] at hEz
 have hQl:Q.length<=80:=by omega
 clear h4
 refine zy ?_
 refine Wc_loop (fun (s:Nat×Int×Int) m ds h'=>ds=[]/\s.1<=Q.length/\Ext h3 h'/\prGo (-1) Q=prGo s.2.1 (Q.drop s.1)/\s.2.2=totalI (Q.take s.1)/\(0<=s.2.2/\s.2.2<=40000000*s.1) ∧
   AllK m [(3,.slice aq Q.length cq),(8,i64 s.2.2),(11,.slice a (ws.map Prod.fst).length cap),(12,.slice ai (ws.map Prod.snd).length ci),(13,i64 s.2.1),(37,.slice aq Q.length cq),(38,i64 Q.length),(39,i64 s.1)]) (fun s=>Q.length-s.1) (0,-1,0) ?_ ?_
 ·exact⟨rfl,Nat.zero_le _,Ext.refl _,rfl,rfl,⟨by decide,by decide⟩,rfl,rfl,rfl,rfl,rfl,rfl,rfl,rfl,trivial⟩
 rintro⟨k,bef,bd⟩ m ds h4 ⟨rfl,hk,hE4,hgo,hbd,⟨bd0,bd1⟩,hall⟩
 simp only at hk hgo hbd bd0 bd1 hall
 refine Wc.le ?_ (Le.kn hall)
 clear hall
 refine zy ?_
 refine Wo_dec rfl rfl rfl rfl (A_lss rfl rfl) (fun hkl=>?_) (fun hkl=>?_)
 ·have hk':k<Q.length:=by omega
  have hdr:=prGo_drop (bef:=bef) hk'
  have htt:=totalI_take hk'
  obtain⟨bq,oq,oaq,rfl,rowq,hrowq,hrq⟩:=hQ k hk'
  generalize Q[k]=q at *
  obtain rfl:=hrq
  have hrow4:=hE4.row hrowq
  refine zy ?_
  refine Wo_do rfl rfl rfl rfl (A_ix Und.h Tsz.h rfl rfl) ?_
  refine zy ?_
  refine Wo_allocStore rfl rfl Zr.h Tsz.h rfl (fun _=>rfl) rfl rfl rfl fun h5 hE5 hW5 hg5 hn5=>?_
  have hE35:=hE4.trans hE5
  refine zy ?_
  refine Wo_callP rfl rfl rfl rfl rfl Bod.h rfl rfl (out_sv _ _ _ _) (fun c1=>?_) (fun c1=>?_)
  ·replace c1:=of_decide_eq_true c1
   rw[if_pos (.inl c1)] at hdr
   rw[coverS_bad (by rw[hEz,hgo,hdr];decide),hEz,hgo,hdr]
   refine zy ?_
   exact Wc_ret (Lv_ret rfl ⟨rfl,hE.trans hE35⟩)
  replace c1:=of_decide_eq_false c1
  refine zy ?_
  refine Wo_callP rfl rfl rfl rfl rfl Bod.h rfl rfl (out_sv _ _ _ _) (fun c2=>?_) (fun c2=>?_)
  ·replace c2:=of_decide_eq_true c2
   rw[if_pos (.inr c2)] at hdr
   rw[coverS_bad (by rw[hEz,hgo,hdr];decide),hEz,hgo,hdr]
   refine zy ?_
   exact Wc_ret (Lv_ret rfl ⟨rfl,hE.trans hE35⟩)
  replace c2:=of_decide_eq_false c2
  rw[if_neg (fun q=>q.elim c1 c2)] at hdr
  refine zy ?_
  refine Wo_dec rfl rfl rfl rfl (A_leq rfl rfl) (fun c3=>?_) (fun c3=>?_)
  ·rw[if_pos c3] at hdr
   rw[coverS_bad (by rw[hEz,hgo,hdr];decide),hEz,hgo,hdr]
   refine zy ?_
   exact Wc_ret (Lv_ret rfl ⟨rfl,hE.trans hE35⟩)
  rw[if_neg c3] at hdr
  refine zy ?_
  refine Wc_draw hmix [0,1,0,0,8,28,3,127] [0,1,2,3,4,5] (some 6) [([],(some 7)),([],none)] (by kernel_rfl) (by kernel_rfl) ?_
  refine z_f ?_;refine z_l ?_;refine z_m ?_;refine z_f ?_;refine z_l ?_;refine Wp_pure rfl rfl rfl rfl rfl (fun _=>A_add rfl rfl (by omega) (by omega)) ?_
  refine Wp_eff [0,1] (by kernel_rfl) rfl (Stl_nil rfl) rfl nb rfl (W1_op rfl rfl (A_assign rfl) ?_)
  refine Wp_eff [0,1,2,3,4,5,6] (by kernel_rfl) rfl (by refine Stl_pure (i:=5) rfl rfl rfl rfl rfl (fun _=>A_add rfl rfl (by omega) (by omega)) rfl ?_;refine t_l 4 ?_;refine t_f 3 ?_;refine t_m 2 ?_;exact Stl_nil rfl) rfl nb rfl (W1_op rfl rfl (A_assign rfl) ?_)
  refine Wp_end (Stl_nil rfl) nb' ?_
  refine zy ?_
  exact⟨(k+1,q.1,bd+q.2),(by show Q.length-(k+1)<Q.length-k;omega),rfl,hk',hE35,(by rw[hgo,hdr]),(by show bd+q.2=_;rw[htt,hbd]),⟨by show 0<=bd+q.2;omega,by show bd+q.2<=40000000*((k+1:Nat):Int);omega⟩,rfl,rfl,rfl,rfl,rfl,rfl,rfl,rfl,trivial⟩
 have:k=Q.length:=by omega
 subst this
 rw[List.drop_length] at hgo
 rw[List.take_length] at hbd
 have hg0:prGo (-1) Q=0:=hgo
 have hE0:coverE t v l Q=0:=by rw[hEz,hg0]
 have hQr:=prGo_ok hg0
 replace hQ:=RowsAt.ext (R:=PrR) (fun x _=>x) hQ hE4
 replace hE:=hE.trans hE4
 replace hLA:=hLA.ext hE4
 replace hSP:=ShowsP.ext hSP hE4
 replace hIn:=hIn.ext hE4
 clear hgo hEz hE4 hHo
 have hwc:∀k (hk:k<ws.length),(canS t v l)[k]?=some (ws[k].1.2,ws[k].2):=fun k hk=>by
  rw[<-hws,List.getElem?_map,List.getElem?_eq_getElem hk];rfl
 refine zy ?_
 refine Wc_loop (fun (i:Nat) m ds h'=>ds=[]/\i<=ws.length/\Ext h4 h'/\(∀j (hj:j<ws.length),j<i->failS t Q (ws[j].1.2,ws[j].2)=false) ∧
   AllK m [(3,.slice aq Q.length cq),(8,i64 bd),(12,.slice ai (ws.map Prod.snd).length ci),(64,.slice a (ws.map Prod.fst).length cap),(65,i64 (ws.map Prod.fst).length),(66,i64 i)]) (fun i=>ws.length-i) 0 ?_ ?_
 ·exact⟨rfl,Nat.zero_le _,Ext.refl _,(fun _ _ hj=>absurd hj (Nat.not_lt_zero _)),rfl,rfl,rfl,rfl,rfl,rfl,trivial⟩
 rintro i m ds h5 ⟨rfl,hi,hE5,hno,hall⟩
 refine Wc.le ?_ (Le.kn hall)
 clear hall
 have hml:(ws.map Prod.fst).length=ws.length:=List.length_map _
 refine zy ?_
 refine Wo_dec rfl rfl rfl rfl (A_lss rfl rfl) (fun hil=>?_) (fun hil=>?_)
 rotate_left
 ·have hi2:i=ws.length:=by omega
  rw[coverS_no hE0 fun c hc=>by
   rw[<-hws] at hc
   obtain⟨w,hw2,rfl⟩:=List.mem_map.1 hc
   obtain⟨j,hj,rfl⟩:=List.getElem_of_mem hw2
   exact hno j hj (by omega)]
  rw[hbd]
  refine zy ?_
  exact Wc_ret (Lv_ret rfl ⟨rfl,hE.trans hE5⟩)
 have hi':i<ws.length:=by omega
 obtain⟨bA,oA,oaA,rfl,hcA⟩:=hLA.li i (by omega)
 rw[List.getElem_map] at hcA
 obtain⟨bI,oI,oaI,rfl,hcI⟩:=hIn i (by rw[List.length_map];exact hi')
 rw[List.getElem_map] at hcI
 have hx0:=hsh _ (List.getElem_mem hi')
 have hSx:=hSP ws[i].1 (List.mem_map_of_mem (List.getElem_mem hi'))
 have hno2:failS t Q (ws[i].1.2,ws[i].2)=false->∀j (hj:j<ws.length),j<i+1->failS t Q (ws[j].1.2,ws[j].2)=false:=fun e j hj hlt=>by
  rcases Nat.lt_or_ge j i with g|g
  ·exact hno j hj g
  ·have:j=i:=by omega
   subst this;exact e
 have hfi:failS t Q (ws[i].1.2,ws[i].2)=true->(canS t v l).find? (failS t Q)=some (ws[i].1.2,ws[i].2):=fun e=>by
  rw[List.find?_eq_some_iff_getElem]
  have hil2:i<(canS t v l).length:=by rw[<-hws,List.length_map];exact hi'
  refine⟨e,i,hil2,?_,fun j hj=>?_⟩
  ·have:=hwc i hi'
   rw[List.getElem?_eq_getElem hil2] at this
   exact Option.some.inj this
  ·have hjw:j<ws.length:=by omega
   have hj2:j<(canS t v l).length:=by omega
   have h1:=hwc j hjw
   rw[List.getElem?_eq_getElem hj2] at h1
   have h2:=Option.some.inj h1
   rw[h2,hno j hjw hj];rfl
 generalize ws[i]=w at *
 have hc5:=hE5.cell hcA
 obtain⟨o1,o2,o3,o4,o5⟩:=over_rng hO hx0
 obtain⟨-,-,-,-,w1,w2⟩:=shown_ok hx0
 have hkx:=hSx
 unfold ShowAt shRow at hkx
 refine zy ?_
 refine Wo_do rfl rfl rfl rfl (A_ix Und.h Tsz.h rfl rfl) ?_
 refine zy ?_
 refine Wc.mono (Q:=fun z m' ds' h'=>z=.exit 6/\ds'=[]/\Ext h4 h'/\AllK m' [(3,.slice aq Q.length cq),(8,i64 bd),(12,.slice (some ⟨bI,oI,oaI⟩) (ws.map Prod.snd).length ci),(16,i64 i),(17,ptrZ w.1),(18,i64 (coverI Q (ivS t w.1.2))),(64,.slice (some ⟨bA,oA,oaA⟩) (ws.map Prod.fst).length cap),(65,i64 (ws.map Prod.fst).length),(66,i64 i)])
  (Wc_loop (fun (k:Nat) m ds h'=>ds=[]/\k<=Q.length/\Ext h4 h'/\AllK m [(3,.slice aq Q.length cq),(8,i64 bd),(12,.slice (some ⟨bI,oI,oaI⟩) (ws.map Prod.snd).length ci),(16,i64 i),(17,ptrZ w.1),(18,i64 (coverI (Q.take k) (ivS t w.1.2))),(64,.slice (some ⟨bA,oA,oaA⟩) (ws.map Prod.fst).length cap),(65,i64 (ws.map Prod.fst).length),(66,i64 i),(71,.slice aq Q.length cq),(72,i64 Q.length),(73,i64 k)]) (fun k=>Q.length-k) 0 ?_ ?_) ?_
 ·exact⟨rfl,Nat.zero_le _,hE5,rfl,rfl,rfl,rfl,rfl,rfl,rfl,rfl,rfl,rfl,rfl,rfl,trivial⟩
 ·clear hE5 hc5
  clear h5
  rintro k m ds h5 ⟨rfl,hk,hE5,hall⟩
  refine Wc.le ?_ (Le.kn hall)
  clear hall
  refine zy ?_
  refine Wo_dec rfl rfl rfl rfl (A_lss rfl rfl) (fun hkl=>?_) (fun hkl=>?_)
  rotate_left
  ·have:k=Q.length:=by omega
   subst this
   rw[List.take_length]
   refine zy ?_
   exact⟨rfl,rfl,hE5,rfl,rfl,rfl,rfl,rfl,rfl,rfl,rfl,rfl,trivial⟩
  have hk':k<Q.length:=by omega
  have hst:coverI (Q.take (k+1)) (ivS t w.1.2)=if w.1.2.minute<=Q[k].1/\Q[k].1<=overS t w.1.2-1 then coverI (Q.take k) (ivS t w.1.2)+Q[k].2 else coverI (Q.take k) (ivS t w.1.2):=coverI_take hk'
  have hcr:=cover_rng (Q:=Q.take k) (x:=ivS t w.1.2) fun q hq=>(hQr q (List.mem_of_mem_take hq)).2
  rw[List.length_take] at hcr
  have hqr:=hQr _ (List.getElem_mem hk')
  obtain⟨bq,oq,oaq,rfl,rowq,hrowq,hrq⟩:=hQ k hk'
  generalize Q[k]=q at *
  obtain rfl:=hrq
  have hrow5:=hE5.row hrowq
  generalize coverI (Q.take k) (ivS t w.1.2)=cu at *
  refine zy ?_
  refine Wo_do rfl rfl rfl rfl (A_ix Und.h Tsz.h rfl rfl) ?_
  refine zy ?_
  refine Wo_allocStore rfl rfl Zr.h Tsz.h rfl (fun _=>rfl) rfl rfl rfl fun h6 hE6 hW6 hg6 hn6=>?_
  have hE46:=hE5.trans hE6
  have hov:=over_sv (hSx.ext hE46) hO hx0
  have kx6:=hE46.get hkx
  refine zy ?_
  by_cases hc:w.1.2.minute<=q.1/\q.1<=overS t w.1.2-1
  ·rw[if_pos hc] at hst
   have hou:=fun h=>Sv_ff (show ¬(q.1<w.1.2.minute\/overS t w.1.2-1<q.1) by omega) (out_sv q.1 w.1.2.minute (overS t w.1.2-1) h)
   generalize overS t w.1.2=ov at *
   refine Wc_draw hmix [0,1,0,4,12,28,60,0,128,384,1023,2047] [0,1,2,3,4,5,6,7] (some 8) [([9],(some 10)),([11],none)] (by kernel_rfl) (by kernel_rfl) ?_
   refine z_f ?_;refine z_l ?_;refine z_m ?_;refine z_q ?_;refine z_f ?_;refine z_f ?_;refine z_l ?_;refine z_m ?_
   refine Wp_eff [7] (by kernel_rfl) rfl (Stl_nil rfl) rfl nb rfl (W1_callV rfl rfl rfl rfl rfl Bod.h hov ?_)
   refine Wp_pure rfl rfl rfl rfl rfl (fun _=>A_sub rfl rfl (by omega) (by omega)) ?_
   refine Wp_eff [0,1,2,3,4,5,6,7,8,9] (by kernel_rfl) rfl (by refine t_l 6 ?_;refine t_f 5 ?_;refine t_f 4 ?_;refine t_q 3 ?_;refine t_m 2 ?_;refine t_l 1 ?_;refine t_f 0 ?_;exact Stl_nil rfl) rfl nb rfl (W1_callV rfl rfl rfl rfl rfl Bod.h (hou _) ?_)
   refine z_n ?_
   refine Wp_end (Stl_nil rfl) nb' ?_
   refine zy ?_
   exact⟨k+1,(by show Q.length-(k+1)<Q.length-k;omega),rfl,hk',hE46,rfl,rfl,rfl,rfl,rfl,(by rw[hst];rfl),rfl,rfl,rfl,rfl,rfl,rfl,trivial⟩
  ·rw[if_neg hc] at hst
   have hou:=fun h=>Sv_tt (show (q.1<w.1.2.minute\/overS t w.1.2-1<q.1) by omega) (out_sv q.1 w.1.2.minute (overS t w.1.2-1) h)
   generalize overS t w.1.2=ov at *
   refine Wc_draw hmix [0,1,0,4,12,28,60,0,128,384,1023,2047] [0,1,2,3,4,5,6,7] (some 8) [([9],(some 10)),([11],none)] (by kernel_rfl) (by kernel_rfl) ?_
   refine z_f ?_;refine z_l ?_;refine z_m ?_;refine z_q ?_;refine z_f ?_;refine z_f ?_;refine z_l ?_;refine z_m ?_
   refine Wp_eff [7] (by kernel_rfl) rfl (Stl_nil rfl) rfl nb rfl (W1_callV rfl rfl rfl rfl rfl Bod.h hov ?_)
   refine Wp_pure rfl rfl rfl rfl rfl (fun _=>A_sub rfl rfl (by omega) (by omega)) ?_
   refine Wp_eff [0,1,2,3,4,5,6,7,8,9] (by kernel_rfl) rfl (by refine t_l 6 ?_;refine t_f 5 ?_;refine t_f 4 ?_;refine t_q 3 ?_;refine t_m 2 ?_;refine t_l 1 ?_;refine t_f 0 ?_;exact Stl_nil rfl) rfl nb rfl (W1_callV rfl rfl rfl rfl rfl Bod.h (hou _) ?_)
   refine z_n ?_
   refine Wp_end (Stl_nil rfl) nb' ?_
   refine zy ?_
   exact⟨k+1,(by show Q.length-(k+1)<Q.length-k;omega),rfl,hk',hE46,rfl,rfl,rfl,rfl,rfl,(by rw[hst];rfl),rfl,rfl,rfl,rfl,rfl,rfl,trivial⟩
 clear hE5 hc5
 rintro _ m' ds' h6 ⟨rfl,rfl,hE6,hall⟩
 show Wc _ _ _ _ _ _ _
 refine Wc.le ?_ (Le.kn hall)
 clear hall
 clear h5
 have kx6:=hE6.get hkx
 have ci6:=hE6.cell hcI
 have hfd:failS t Q (w.1.2,w.2)=decide (coverI Q (ivS t w.1.2)<w.1.2.worth):=rfl
 refine zy ?_
 refine Wo_dec rfl rfl rfl rfl (A_lss rfl rfl) (fun hf=>?_) (fun hf=>?_)
 ·rw[coverS_at hE0 (hfi (by rw[hfd];exact decide_eq_true hf))]
  refine zy ?_
  refine Wc_draw hmix [0,0,3,7,0,31,63] [0,1,2,3] (some 4) [([],(some 5)),([],(some 6)),([],none)] (by kernel_rfl) (by kernel_rfl) ?_
  refine z_m ?_;refine z_m ?_;refine Wp_pure rfl rfl rfl rfl rfl (fun _=>A_ix (k:=i) Und.h Tsz.h rfl rfl (hlt:=by rw[List.length_map];exact hi')) ?_;refine z_l ?_
  refine Wp_eff [] (by kernel_rfl) rfl (Stl_nil rfl) rfl nb rfl (W1_op rfl rfl (A_assign rfl) ?_)
  refine Wp_eff [0,1,2,3,4] (by kernel_rfl) rfl (by refine t_l 3 ?_;refine Stl_pure (i:=2) rfl rfl rfl rfl rfl (fun _=>A_ix (k:=i) Und.h Tsz.h rfl rfl (hlt:=by rw[List.length_map];exact hi')) rfl ?_;refine t_m 1 ?_;refine t_m 0 ?_;exact Stl_nil rfl) rfl nb rfl (W1_op rfl rfl (A_assign rfl) ?_)
  refine Wp_eff [0,1,2,3,4,5] (by kernel_rfl) rfl (Stl_nil rfl) rfl nb rfl (W1_op rfl rfl (A_assign rfl) ?_)
  refine Wp_end (Stl_nil rfl) nb' ?_
  refine zy ?_
  exact Wc_ret (Lv_ret rfl ⟨rfl,hE.trans hE6⟩)
 ·refine zy ?_
  exact⟨i+1,(by show ws.length-(i+1)<ws.length-i;omega),rfl,hi',hE6,hno2 (by rw[hfd];exact decide_eq_false hf),rfl,rfl,rfl,rfl,rfl,rfl,trivial⟩
end Go.Dw
/- BA: contracts: the reference's most: the greatest worth of a programme. -/
namespace Go.Dw
open Go Go.Dx Go.Proofs
set_option maxRecDepth 100000
structure MoG (h:Heap)(b3 b8 b9 n:Nat)(tc:List Value)(dn:Nat->Bool)(en:Nat->Int):Prop where
 g3:h.get b3=some (.cells tc 31 false)
 g8:h.get b8=some (.cells (fnL n fun k=>i64 (en k)) 3 false)
 g9:h.get b9=some (.cells (fnL n fun k=>.bool (dn k)) 4 false)
theorem MoG.ext {h h':Heap}{b3 b8 b9 n:Nat}{tc:List Value}{dn:Nat->Bool}{en:Nat->Int}(g:MoG h b3 b8 b9 n tc dn en)(he:Ext h h'):MoG h' b3 b8 b9 n tc dn en:=⟨he.get g.g3,he.get g.g8,he.get g.g9⟩
theorem MoG.c8 {h:Heap}{b3 b8 b9 n k:Nat}{tc:List Value}{dn:Nat->Bool}{en:Nat->Int}(g:MoG h b3 b8 b9 n tc dn en)(hk:k<n):cellAt h b8 (0+k*1)=some (i64 (en k)):=cellAt_cells g.g8 (by rw[nth_eq,Nat.zero_add,Nat.mul_one,fnL_at hk])
theorem MoG.c9 {h:Heap}{b3 b8 b9 n k:Nat}{tc:List Value}{dn:Nat->Bool}{en:Nat->Int}(g:MoG h b3 b8 b9 n tc dn en)(hk:k<n):cellAt h b9 (0+k*1)=some (.bool (dn k)):=cellAt_cells g.g9 (by rw[nth_eq,Nat.zero_add,Nat.mul_one,fnL_at hk])
def noS:ScS:=⟨0,0,0,0,0,0⟩
def sAt (l:List ScS)(k:Nat):ScS:=l.getD k noS
end Go.Dw
/- BB: contracts: the reference's fits and priced. -/
namespace Go.Dw
open Go Go.Dx Go.Proofs
set_option maxRecDepth 100000
def EndsTo (I:List Iv)(last:Int)(E:List Int):Prop:=E.Pairwise (· < ·)/\∀e,e∈E ↔ (∃x∈I,x.e=e)/\e<=last
theorem EndsTo.step {I:List Iv}{last nx:Int}{E:List Int}(h:EndsTo I last E)(h1:last<nx)(h2:∃x∈I,x.e=nx)(h3:∀x∈I,last<x.e->nx<=x.e):EndsTo I nx (E++[nx]):=by
 refine⟨List.pairwise_append.2 ⟨h.1,by simp,fun a ha b hb=>?_⟩,fun e=>?_⟩
 ·have:=((h.2 a).1 ha).2
  rw[List.mem_singleton.1 hb]
  omega
 ·rw[List.mem_append,List.mem_singleton,h.2]
  constructor
  ·rintro (⟨g1,g2⟩|rfl)
   ·exact⟨g1,by omega⟩
   ·exact⟨h2,Int.le_refl _⟩
  ·rintro⟨⟨x,hx,rfl⟩,g⟩
   by_cases c:x.e<=last
   ·exact .inl ⟨⟨x,hx,rfl⟩,c⟩
   ·have:=h3 x hx (by omega)
    exact .inr (by omega)
theorem EndsTo.len {I:List Iv}{last:Int}{E:List Int}(h:EndsTo I last E):E.length<=I.length:=by
 have hn:E.Nodup:=h.1.imp fun h=>Int.ne_of_lt h
 have hs:E ⊆ I.map Iv.e:=fun e he=>by
  obtain⟨⟨x,hx,rfl⟩,-⟩:=(h.2 e).1 he
  exact List.mem_map_of_mem hx
 have:=nodup_len hn hs
 rw[List.length_map] at this
 exact this
end Go.Dw
/- BC: contracts: the reference's Best. -/
namespace Go.Dw
open Go Go.Dx Go.Proofs
set_option maxRecDepth 100000
abbrev CI:=ScS×Nat
abbrev ivC (t:ScT)(c:CI):Iv:=ivS t c.1
def shR (l:List CI):List Value:=(l.map Prod.fst).flatMap shVs
theorem shR_snoc (l:List CI)(c:CI):shR (l++[c])=shR l++shVs c.1:=by unfold shR;rw[List.map_append,List.flatMap_append];simp
def ixR (l:List CI):List Value:=l.map fun c=>i64 (c.2:Int)
theorem shR_at {h0 h:Heap}{v:Value}{C:List CI}(hF:FreshSl h0 h v 42 6 (shR C) C.length):∃a c,v=.slice a (C.map Prod.fst).length c/\RowsAt 6 ScSR h a (C.map Prod.fst):=by
 have h2:FreshSl h0 h v 42 6 ((C.map Prod.fst).flatMap shVs) (C.map Prod.fst).length:=by rw[List.length_map];exact hF
 exact shRows_at h2
end Go.Dw
/- BE: contracts: the reference's Cover; prices compared. -/
namespace Go.Dw
open Go Go.Dx Go.Proofs
set_option maxRecDepth 100000
theorem prRows_at {h0 h:Heap}{v:Value}{P:List (Int×Int)}(hF:FreshSl h0 h v 110 2 (P.flatMap prRow) P.length):∃a c,v=.slice a P.length c/\RowsAt 2 PrR h a P:=by
 rcases hF with ⟨rfl,_,h0⟩|⟨b,sp,op,rfl,hg,_⟩
 ·rw[h0]
  exact⟨none,0,rfl,fun i hi=>absurd hi (by omega)⟩
 ·refine⟨some ⟨b,0,sp⟩,P.length,rfl,fun i hi=>⟨b,0,sp,rfl,_,rowAt_cells hg ?_,rfl⟩⟩
  rw[Nat.zero_add]
  exact cut_flat (f:=prRow) (k:=2) hi fun _ _=>rfl
end Go.Dw
