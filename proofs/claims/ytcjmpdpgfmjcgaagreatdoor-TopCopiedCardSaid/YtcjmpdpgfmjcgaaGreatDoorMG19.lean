/- E1: contracts of decay: what a level becomes. -/
import Derived.Test.YtcjmpdpgfmjcgaaGreatDoorMG2
import Derived.Test.YtcjmpdpgfmjcgaaGreatDoorMG16
import Derived.Test.YtcjmpdpgfmjcgaaGreatDoorMG18
import Derived.Test.YtcjmpdpgfmjcgaaGreatDoorMG7
namespace Go.Dw
open Go Go.Dx Go.Proofs
set_option maxRecDepth 100000
theorem A_quo {P:Program}{m:Mem}{h:Heap}{d:Option Tmp}{ty:TypeId}{pos:String}{af:Array Edge}{gu:Option (Nat×Bool)}{t tz:TypeId}{x y:Operand}{a b c:Int}(hx:opk h m x=some (.int .i64 a))(hy:opk h m y=some (.int .i64 b))(hb:b≠0)(hc:a.tdiv b=c)(h1:-9223372036854775808<=c)(h2:c<9223372036854775808):Aop P ⟨d,.binOp .quo t x y tz,ty,pos,af,gu⟩ m h (.int .i64 c) h :=
 A_bin hx hy rfl rfl rfl fun w=>by
  subst hc
  have:IntKind.i64.wrap (a.tdiv b)=a.tdiv b:=IntWalk.i64_in _ (by omega)
  simp only[Sem.run_bind,eqGuard_int,Result.andThen_ok];simp[binOp,Op.intDiv,hb,this]
def PtR (_:Heap)(row:List Value)(p:CPt):Prop:=row=[i64 p.at',i64 p.factor]
def DayR (_:Heap)(row:List Value)(d:DDay):Prop:=row=[i64 d.temp.lo,i64 d.temp.hi,i64 d.damp.lo,i64 d.damp.hi]
def TestR (_:Heap)(row:List Value)(x:DTest):Prop:=row=[i64 x.day,i64 x.grade,i64 x.error]
def SpR (_:Heap)(row:List Value)(s:Sp):Prop:=row=[i64 s.lo,i64 s.hi]
def RuleAt (h:Heap)(row:List Value)(r:DRule):Prop:=∃ah ch aw cw g0 g1 g2,r.grades=[g0,g1,g2]/\row=[.slice ah r.heat.length ch,.slice aw r.wet.length cw,i64 r.own,i64 r.feed,i64 g0,i64 g1,i64 g2,i64 r.lost]/\RowsAt 2 PtR h ah r.heat/\RowsAt 2 PtR h aw r.wet
theorem RuleAt.ext {h h':Heap}{row:List Value}{r:DRule}(a:RuleAt h row r)(he:Ext h h'):RuleAt h' row r:=by
 obtain⟨ah,ch,aw,cw,g0,g1,g2,e1,e2,h1,h2⟩:=a
 exact⟨ah,ch,aw,cw,g0,g1,g2,e1,e2,RowsAt.ext (R:=PtR) (fun x _=>x) h1 he,RowsAt.ext (R:=PtR) (fun x _=>x) h2 he⟩
def spV (s:Sp):Value:=.agg ⟨[i64 s.lo,i64 s.hi]⟩
theorem gains_sv {rr:List Value}{r:DRule}{s:Sp}{n:Int}{h:Heap}(hr:RuleAt h rr r)(hR:RuleOk r)(hs:Strong s)(h0:0<=n)(h1:n<=1000000) :
  Sv Tryz.prog 84 [.agg ⟨rr⟩,spV s,i64 n] h (RetP fun v h'=>v=spV ⟨leastS r s n,mostS r s n⟩/\Ext h h'):=by
 obtain⟨ah,ch,aw,cw,g0,g1,g2,_,rfl,_,_⟩:=hr
 have hb:=base_rng hR h0 h1
 obtain⟨f1,f2,f3⟩:=force_rng hR hs h0 h1
 have o0:=hR.own0
 have o1:=hR.own1
 have e0:=hR.feed0
 have e1:=hR.feed1
 have hnf:0<=n*r.feed:=Int.mul_nonneg h0 e0
 have hbe:r.own*1000000+n*r.feed=baseS r n:=rfl
 have hl:=least_most hR hs h0 h1
 refine Sv_wf fun hw=>?_
 refine Sv_enter Tryz.func84 rfl (by rw[Tryz.ntmps84];rfl) ?_;show Wc Tryz.prog ⟨84,35,none⟩ _ _ _ _ _
 refine zz ?_
 refine Wo_box rfl rfl rfl fun h1 hE1 hW1 hg1 hn1=>?_
 refine Wo_box rfl rfl rfl fun h2 hE2 hW2 hg2 hn2=>?_
 refine Wo_alloc rfl rfl Zr.h fun h3 hE3 hW3 hg3 hn3=>?_
 have hE:=(hE1.trans hE2).trans hE3
 replace hg1:=(hE2.trans hE3).get hg1
 replace hg2:=hE3.get hg2
 have hb1:h.nx<=h1.nx:=hE1.2.1
 have hb2:h1.nx<=h2.nx:=hE2.2.1
 generalize hq:h2.nx=b6 at *
 generalize hz3:h.nx=b3 at *
 generalize h1.nx=b4 at *
 refine zz ?_
 refine Wo_do rfl rfl rfl rfl (A_mul rfl rfl (by omega) (by omega)) ?_
 refine zz ?_
 refine Wo_do rfl rfl rfl rfl (A_mul rfl rfl (by omega) (by omega)) ?_
 refine zz ?_
 rw[hbe]
 generalize hz:baseS r n=z at *
 refine Wo_do rfl rfl rfl rfl (A_mul rfl rfl (by omega) (by omega)) ?_
 refine zz ?_
 have q1:(z*s.lo).tdiv 1000000000=z*s.lo / 1000000000:=Int.tdiv_eq_ediv_of_nonneg f1
 have q2:(z*s.hi+999999999).tdiv 1000000000=(z*s.hi+999999999) / 1000000000:=Int.tdiv_eq_ediv_of_nonneg (by omega)
 refine Wo_do rfl rfl rfl rfl (A_quo rfl rfl (by decide) rfl (by omega) (by omega)) ?_
 refine zz ?_
 refine Wo_do rfl rfl rfl rfl (A_min rfl rfl) ?_
 refine zz ?_
 refine Wo_do rfl rfl rfl rfl (A_mul rfl rfl (by omega) (by omega)) ?_
 refine zz ?_
 refine Wo_do rfl rfl rfl rfl (A_quo (c:=(z*s.hi+999999999).tdiv 1000000000) rfl rfl (by decide) (by rw[show z*s.hi+1000000000-1=z*s.hi+999999999 by omega]) (by omega) (by omega)) ?_
 refine zz ?_
 refine Wo_do rfl rfl rfl rfl (A_min rfl rfl) ?_
 refine zz ?_
 refine Wo_do rfl rfl rfl rfl (A_build rfl rfl) ?_
 refine zz ?_
 refine Wo_store rfl Tsz.h rfl rfl hg3 rfl rfl rfl fun h4 hU4=>?_
 refine zz ?_
 have hE4:Ext h h4:=hU4.ext hE hw (by omega)
 have hg4:=hU4.at'
 refine Wc_ret (Lv_ret (vs:=[spV ⟨leastS r s n,mostS r s n⟩]) (resk_cell rfl (aload_row RowC.h (rowAt_cells hg4 ?_)) rfl) ⟨rfl,hE4⟩)
 rw[<-hz] at *
 rfl
end Go.Dw
/- E2: contracts of decay: sort.Search; the factor of a curve; the strength of a climate. -/
namespace Go.Dw
open Go Go.Dx Go.Proofs
set_option maxRecDepth 100000
theorem search_sv {n:Nat}{p:Nat->Bool}{g:FuncId}{fb cb:List Value}{h:Heap}(hn:n<=10000000)(hbd:bodied Tryz.prog g=true)(hm:∀i j,i<=j->j<n->p i=true->p j=true)
  (hf:∀k h1,k<n->Ext h h1->Sv Tryz.prog g (fb++([i64 (k:Nat)]++cb)) h1 (RetP fun v h2=>v=.bool (p k)/\Ext h1 h2)) :
  Sv Tryz.prog 123 [i64 (n:Nat),.func (.func g) ⟨fb⟩ ⟨cb⟩] h (RetP fun v h'=>∃i:Nat,v=i64 (i:Nat)/\i<=n/\(∀k,k<i->p k=false)/\(i<n->p i=true)/\Ext h h'):=by
 refine Sv_enter Tryz.func123 rfl (by rw[Tryz.ntmps123];rfl) ?_;show Wc Tryz.prog ⟨123,26,none⟩ _ _ _ _ _
 refine zz ?_
 refine Wc_loop (fun (s:Nat×Nat) m ds h'=>ds=[]/\s.1<=s.2/\s.2<=n/\(∀k,k<s.1->p k=false)/\(s.2<n->p s.2=true)/\Ext h h'/\AllK m [(1,.func (.func g) ⟨fb⟩ ⟨cb⟩),(5,i64 (s.1:Nat)),(6,i64 (s.2:Nat))]) (fun s=>s.2-s.1) (0,n) ?_ ?_
 ·exact⟨rfl,Nat.zero_le _,Nat.le_refl _,(fun k hk=>absurd hk (Nat.not_lt_zero _)),(fun hk=>absurd hk (Nat.lt_irrefl _)),Ext.refl _,rfl,rfl,rfl,trivial⟩
 rintro⟨i,j⟩ m ds h1 ⟨rfl,hij,hjn,hlo,hhi,hE,hall⟩
 simp only at hij hjn hlo hhi hall
 refine Wc.le ?_ (Le.kn hall)
 refine zz ?_
 refine Wo_dec rfl rfl rfl rfl (A_lss rfl rfl) (fun hlt=>?_) (fun hlt=>?_)
 rotate_left
 ·have:i=j:=by omega
  subst this
  refine zz ?_
  exact Wc_ret (Lv_normal rfl ⟨i,rfl,hjn,hlo,hhi,hE⟩)
 have hmid:IntKind.i64.wrap ((IntKind.u64.wrap ((i:Int)+(j:Int))).fdiv (2 ^ (min (1:Int).toNat (IntKind.u64.bits))))=(((i+j) / 2:Nat):Int):=by
  rw[IntWalk.u64_in _ (by omega)]
  have e:((i:Int)+(j:Int)).fdiv (2 ^ (min (1:Int).toNat (IntKind.u64.bits)))=(((i+j) / 2:Nat):Int):=by
   show ((i:Int)+(j:Int)).fdiv 2=_
   rw[Int.fdiv_eq_ediv_of_nonneg _ (by decide)]
   omega
  rw[e,IntWalk.i64_in _ (by omega)]
 refine zz ?_
 refine Wo_do rfl rfl rfl rfl (A_conv ⟨_,Und.h⟩ Und.h rfl) ?_
 refine zz ?_
 refine Wo_do rfl rfl rfl rfl (A_shr rfl rfl (by decide)) ?_
 refine zz ?_
 refine Wo_do rfl rfl rfl rfl (A_conv ⟨_,Und.h⟩ Und.h rfl) ?_
 rw[hmid]
 have hq1:(i+j) / 2<n:=by omega
 refine zz ?_
 refine Wo_callr rfl rfl rfl rfl rfl hbd rfl rfl (hf ((i+j) / 2) h1 hq1 hE) ?_
 rintro _ h2 ⟨rfl,hE2⟩
 generalize hqe:(i+j) / 2=q at *
 cases hpq:p q
 ·refine zz ?_
  refine⟨(q+1,j),(by show j-(q+1)<j-i;omega),rfl,(by show q+1<=j;omega),hjn,(fun k hk=>?_),hhi,hE.trans hE2,rfl,rfl,rfl,trivial⟩
  have hk:k<q+1:=hk
  cases hpk:p k
  ·rfl
  ·rw[hm k q (by omega) hq1 hpk] at hpq;cases hpq
 ·refine zz ?_
  exact⟨(i,q),(by show q-i<j-i;omega),rfl,(by show i<=q;omega),(by show q<=n;omega),hlo,fun _=>hpq,hE.trans hE2,rfl,rfl,rfl,trivial⟩
end Go.Dw
/- E3: contracts of decay: the reference's least and most; what two spans have in common; the factor of a curve. -/
namespace Go.Dw
open Go Go.Dx Go.Proofs
set_option maxRecDepth 100000
theorem meet_sv {a b:Sp}{h:Heap}:Sv Tryz.prog 119 [spV a,spV b] h (RetP fun v h'=>v=.tuple ⟨[spV (meetS a b),.bool (decide ((meetS a b).lo<=(meetS a b).hi))]⟩/\Ext h h'):=by
 refine Sv_wf fun hw=>?_
 refine Sv_enter Tryz.func119 rfl (by rw[Tryz.ntmps119];rfl) ?_;show Wc Tryz.prog ⟨119,24,none⟩ _ _ _ _ _
 refine zz ?_
 refine Wo_box rfl rfl rfl fun h1 hE1 hW1 hg1 hn1=>?_
 refine Wo_box rfl rfl rfl fun h2 hE2 hW2 hg2 hn2=>?_
 refine Wo_alloc rfl rfl Zr.h fun h3 hE3 hW3 hg3 hn3=>?_
 have hE:=(hE1.trans hE2).trans hE3
 replace hg1:=(hE2.trans hE3).get hg1
 replace hg2:=hE3.get hg2
 have hq:=(hE1.trans hE2).2.1
 refine zz ?_
 refine Wo_do rfl rfl rfl rfl (A_max rfl rfl) ?_
 refine zz ?_
 refine Wo_do rfl rfl rfl rfl (A_min rfl rfl) ?_
 refine zz ?_
 refine Wo_do rfl rfl rfl rfl (A_build rfl rfl) ?_
 refine Wo_allocStore rfl rfl Zr.h Tsz.h rfl (fun _=>rfl) rfl rfl rfl fun h4 hE4 hW4 hg4 hn4=>?_
 replace hg3:=hE4.get hg3
 have hne:h3.nx≠h2.nx:=by omega
 refine zz ?_
 refine Wc_draw hmix [0,0,2,0,8,30,1,127] [0,1,2,3,4,5] (some 6) [([],(some 7)),([],none)] (by kernel_rfl) (by kernel_rfl) ?_
 refine z_r ?_;refine z_f ?_;refine z_l ?_;refine z_f ?_;refine z_l ?_;refine Wp_pure rfl rfl rfl rfl rfl (fun _=>A_leq rfl rfl) ?_
 refine Wp_eff [0] (by kernel_rfl) rfl (Stl_nil rfl) rfl nb rfl (W1_store rfl rfl Tsz.h rfl rfl hg3 rfl rfl rfl (fun h5 hU5=>?_))
 have hg45:=hU5.get hne hg4
 refine Wp_eff [0,1,2,3,4,5,6] (by kernel_rfl) rfl (by refine Stl_pure (i:=5) rfl rfl rfl rfl rfl (fun _=>A_leq rfl rfl) rfl ?_;refine t_l 4 ?_;refine t_f 3 ?_;refine t_l 2 ?_;refine t_f 1 ?_;exact Stl_nil rfl) rfl nb rfl (W1_op rfl rfl (A_assign rfl) ?_)
 refine Wp_end (Stl_nil rfl) nb' ?_
 refine zz ?_
 have hg5:=hU5.at'
 exact Wc_ret (Lv_ret (vs:=[spV (meetS a b),.bool (decide ((meetS a b).lo<=(meetS a b).hi))]) (resk_cell rfl (aload_row RowC.h (rowAt_cells hg5 rfl)) (resk_tmp rfl rfl)) ⟨rfl,hU5.ext (hE.trans hE4) hw hq⟩)
theorem factorGo_mid {n:Int}:∀{l:List CPt}{a:CPt}{i:Nat}(hi:i<l.length),(∀k (hk:k<i),(l[k]'(by omega)).at'<n)->n<=l[i].at'->factorGo n a l=((a::l)[i]'(by simp;omega)).factor+((l[i].factor-((a::l)[i]'(by simp;omega)).factor)*(n-((a::l)[i]'(by simp;omega)).at')).tdiv (l[i].at'-((a::l)[i]'(by simp;omega)).at')
 | b::l,a,0,_,_,h=>by rw[factorGo,if_pos (show n<=b.at' from h)];rfl
 | b::l,a,i+1,hi,hb,h=>by
  have h0:=hb 0 (Nat.succ_pos _)
  rw[factorGo,if_neg (by simp only[List.getElem_cons_zero] at h0;omega)]
  exact factorGo_mid (l:=l) (a:=b) (i:=i) (by simpa using hi) (fun k hk=>by have:=hb (k+1) (by omega);simpa using this) (by simpa using h)
theorem factorGo_end {n:Int}:∀{l:List CPt}{a:CPt},(∀p∈l,p.at'<n)->factorGo n a l=((a::l)[l.length]'(by simp)).factor
 | [],a,_=>rfl
 | b::l,a,h=>by
  have h0:=h b List.mem_cons_self
  rw[factorGo,if_neg (by omega),factorGo_end fun p hp=>h p (List.mem_cons_of_mem _ hp)]
  rfl
theorem factor_by {l:List CPt}{n:Int}(hl:0<l.length){i:Nat}(hi:i<=l.length)(hlo:∀k (hk:k<i),(l[k]'(by omega)).at'<n)(hhi:∀h:i<l.length,n<=l[i].at') :
  (i=0->factorS l n=l[0].factor)/\(i=l.length->factorS l n=(l[i-1]'(by omega)).factor)/\∀(h0:0<i) (h1:i<l.length),factorS l n=(l[i-1]'(by omega)).factor+((l[i].factor-(l[i-1]'(by omega)).factor)*(n-(l[i-1]'(by omega)).at')).tdiv (l[i].at'-(l[i-1]'(by omega)).at'):=by
 cases l with
 | nil=>exact absurd hl (Nat.lt_irrefl _)
 | cons a l =>
  refine⟨fun e=>?_,fun e=>?_,fun h0 h1=>?_⟩
  ·subst e
   rw[factorS,if_pos (by have:=hhi hl;simpa using this)];rfl
  ·subst e
   have h0:=hlo 0 hl
   simp only[List.getElem_cons_zero] at h0
   rw[factorS,if_neg (by omega),factorGo_end fun p hp=>?_]
   ·simp
   ·obtain⟨k,hk,rfl⟩:=List.getElem_of_mem hp
    have:=hlo (k+1) (by simp;omega)
    simpa using this
  ·obtain⟨j,rfl⟩:∃j,i=j+1:=⟨i-1,by omega⟩
   have h2:=hlo 0 h0
   simp only[List.getElem_cons_zero] at h2
   rw[factorS,if_neg (by omega),factorGo_mid (i:=j) (by simpa using h1) (fun k hk=>by have:=hlo (k+1) (by omega);simpa using this) (by have:=hhi h1;simpa using this)]
   simp
theorem PtR.cells {h:Heap}{a:Option Addr}{l:List CPt}(hP:RowsAt 2 PtR h a l){k:Nat}(hk:k<l.length):∃b o oa,a=some ⟨b,o,oa⟩/\rowAt h b (o+k*2) 2=some [i64 l[k].at',i64 l[k].factor]/\cellAt h b (o+k*2+0)=some (i64 l[k].at')/\cellAt h b (o+k*2+1)=some (i64 l[k].factor):=by
 obtain⟨b,o,oa,e,row,h1,rfl⟩:=hP k hk
 exact⟨b,o,oa,e,h1,cell_of_row h1 rfl,cell_of_row h1 rfl⟩
theorem at_sv {a:Option Addr}{c:Nat}{l:List CPt}{n:Int}{b2 b3 k:Nat}{h:Heap}(hP:RowsAt 2 PtR h a l)(hg2:h.get b2=some (.cells [.slice a l.length c] 45 false))(hg3:h.get b3=some (.cells [i64 n] 3 false))(hk:k<l.length) :
  Sv Tryz.prog 200 [i64 (k:Nat),ptr b2,ptr b3] h (RetP fun v h'=>v=.bool (decide (n<=l[k].at'))/\Ext h h'):=by
 obtain⟨b,o,oa,rfl,_,hc,_⟩:=PtR.cells hP hk
 refine Sv_enter Tryz.func200 rfl (by rw[Tryz.ntmps200];rfl) ?_;show Wc Tryz.prog ⟨200,12,none⟩ _ _ _ _ _
 refine zz ?_
 refine Wc_draw hmix [0,0,3,7,15,0,63,127] [0,1,2,3,4,5,6] (some 7) [([],none)] (by kernel_rfl) (by kernel_rfl) ?_
 refine z_l ?_;refine z_m ?_;refine z_i ?_;refine z_f ?_;refine z_l ?_;refine z_l ?_;refine Wp_pure rfl rfl rfl rfl rfl (fun _=>A_geq rfl rfl) ?_
 refine Wp_eff [0,1,2,3,4,5,6] (by kernel_rfl) rfl (Stl_nil rfl) rfl nb rfl (W1_op rfl rfl (A_assign rfl) ?_)
 refine Wp_end (Stl_nil rfl) nb' ?_
 refine zz ?_
 exact Wc_ret (Lv_ret rfl ⟨rfl,Ext.refl _⟩)
end Go.Dw
/- E4: contracts of decay: the factor of a curve, in the program and in the reference. -/
namespace Go.Dw
open Go Go.Dx Go.Proofs
set_option maxRecDepth 100000
theorem interp_ok {a b:CPt}{n:Int}(ha:-300<=a.at'/\a.at'<=1000)(hb:-300<=b.at'/\b.at'<=1000)(fa:0<=a.factor/\a.factor<=1000)(fb:0<=b.factor/\b.factor<=1000)(hab:a.at'<b.at')(hf:a.factor<=b.factor)(h1:a.at'<=n)(h2:n<=b.at') :
  0<=(b.factor-a.factor)*(n-a.at')/\(b.factor-a.factor)*(n-a.at')<=1300000/\0<=((b.factor-a.factor)*(n-a.at')).tdiv (b.at'-a.at')/\((b.factor-a.factor)*(n-a.at')).tdiv (b.at'-a.at')<=1000:=by
 have h3:0<=(b.factor-a.factor)*(n-a.at'):=Int.mul_nonneg (by omega) (by omega)
 have h4:(b.factor-a.factor)*(n-a.at')<=1000*1300:=Int.mul_le_mul (by omega) (by omega) (by omega) (by decide)
 have h5:=part_rng (x:=b.factor-a.factor) (y:=n-a.at') (w:=b.at'-a.at') (by omega) (by omega) (by omega) (by omega)
 exact⟨h3,by omega,h5.1,by omega⟩
set_option maxHeartbeats 2000000 in
theorem factor_sv {lo hi:Int}{a:Option Addr}{c:Nat}{l:List CPt}{n:Int}{h:Heap}(hP:RowsAt 2 PtR h a l)(hC:CurveOk lo hi l)(hlo:-300<=lo)(hhi:hi<=1000)(hn:-300<=n/\n<=1000) :
  Sv Tryz.prog 158 [.slice a l.length c,i64 n] h (RetP fun v h'=>v=i64 (factorS l n)/\Ext h h'):=by
 have hl2:=hC.len2
 have hl8:=hC.len8
 refine Sv_wf fun hw=>?_
 refine Sv_enter Tryz.func158 rfl (by rw[Tryz.ntmps158];rfl) ?_;show Wc Tryz.prog ⟨158,58,none⟩ _ _ _ _ _
 refine zz ?_
 refine Wo_box rfl rfl rfl fun h1 hE1 hW1 hg1 hn1=>?_
 refine Wo_box rfl rfl rfl fun h2 hE2 hW2 hg2 hn2=>?_
 replace hg1:=hE2.get hg1
 replace hE1:=hE1.trans hE2
 clear hE2 hW1 hn1
 generalize h.nx=b2 at *
 generalize h1.nx=b3 at *
 clear h1
 have hasc:∀i j (hj:j<l.length) (hij:i<j),(l[i]'(by omega)).at'<l[j].at'/\(l[i]'(by omega)).factor<=l[j].factor:=fun i j hj hij=>List.pairwise_iff_getElem.1 hC.asc i j (by omega) hj hij
 refine zz ?_
 refine Wo_callr rfl rfl rfl rfl rfl Bod.h rfl rfl (search_sv (n:=l.length) (p:=fun k=>match l[k]? with|some q=>decide (n<=q.at')|none=>true) (g:=200) (fb:=[]) (cb:=[ptr b2,ptr b3]) (by omega) Bod.h (fun i j hij hj hp=>?_) (fun k h3 hk hE3=>?_)) ?_
 ·rw[List.getElem?_eq_getElem (show i<l.length by omega)] at hp
  rw[List.getElem?_eq_getElem hj]
  have hp:=of_decide_eq_true hp
  refine decide_eq_true ?_
  by_cases e:i=j
  ·subst e;exact hp
  ·have:=(hasc i j hj (by omega)).1;omega
 ·rw[List.getElem?_eq_getElem hk]
  exact at_sv (RowsAt.ext (R:=PtR) (fun x _=>x) hP (hE1.trans hE3)) (hE3.get hg1) (hE3.get hg2) hk
 rintro _ h3 ⟨i,rfl,hi,hlow,hup,hE3⟩
 have hlow':∀k (hk:k<i),(l[k]'(by omega)).at'<n:=fun k hk=>by
  have:=hlow k hk
  rw[List.getElem?_eq_getElem (show k<l.length by omega)] at this
  have:=of_decide_eq_false this
  omega
 have hup':∀hi:i<l.length,n<=l[i].at':=fun hi'=>by
  have:=hup hi'
  rw[List.getElem?_eq_getElem hi'] at this
  exact of_decide_eq_true this
 obtain⟨f1,f2,f3⟩:=factor_by (by omega) hi hlow' hup'
 have hE:=hE1.trans hE3
 have hPE:=RowsAt.ext (R:=PtR) (fun x _=>x) hP hE
 replace hg1:=hE3.get hg1
 replace hg2:=hE3.get hg2
 clear hlow hup
 refine zz ?_
 by_cases c0:i=0
 ·subst c0
  rw[f1 rfl]
  obtain⟨b,o,oa,rfl,_,_,hc⟩:=PtR.cells hPE (show 0<l.length by omega)
  refine Wo_do rfl rfl rfl rfl (A_tt rfl (A_eql rfl rfl)) ?_
  refine zz ?_
  refine Wo_do rfl rfl rfl rfl (A_ix (k:=0) Und.h Tsz.h rfl rfl (by omega)) ?_
  refine zz ?_
  exact Wc_ret (Lv_ret rfl ⟨rfl,hE⟩)
 refine Wo_do rfl rfl rfl rfl (A_ff (show ¬((i:Nat):Int)=0 by omega) (A_eql rfl rfl)) ?_
 refine zz ?_
 obtain⟨b,o,oa,rfl,hr1,_,hc1⟩:=PtR.cells hPE (show i-1<l.length by omega)
 by_cases c1:i=l.length
 ·rw[f2 c1]
  refine Wo_do rfl rfl rfl rfl (A_tt (show ((i:Nat):Int)=(l.length:Nat) by omega) (A_eql rfl rfl)) ?_
  refine zz ?_
  refine Wo_do rfl rfl rfl rfl (A_ix (k:=i-1) Und.h Tsz.h rfl (by show some (i64 ((i:Int)-1))=some (i64 ((i-1:Nat):Int));congr 2;omega) (by omega)) ?_
  refine zz ?_
  exact Wc_ret (Lv_ret rfl ⟨rfl,hE⟩)
 refine Wo_do rfl rfl rfl rfl (A_ff (show ¬((i:Nat):Int)=(l.length:Nat) by omega) (A_eql rfl rfl)) ?_
 have hi':i<l.length:=by omega
 obtain⟨b',o',oa',eb,hr2,_,hc2⟩:=PtR.cells hPE hi'
 cases eb
 rw[f3 (by omega) hi']
 obtain⟨as1,as2⟩:=hasc (i-1) i hi' (by omega)
 have r1:=hC.rng _ (List.getElem_mem (show i-1<l.length by omega))
 have r2:=hC.rng _ (List.getElem_mem hi')
 have hl1:=hlow' (i-1) (by omega)
 have hl3:=hup' hi'
 generalize hA:l[i-1]=pa at *
 generalize hB:l[i]=pb at *
 obtain⟨g1,g2,g3,g4⟩:=interp_ok (a:=pa) (b:=pb) (n:=n) (by omega) (by omega) (by omega) (by omega) as1 as2 (by omega) hl3
 refine Wo_wf fun hw3=>?_
 refine zz ?_
 refine Wc_draw hmix [0,0,2,7,15,0,0,96,224,0,0,1567,4095] [0,1,2,3,4,5,6,7,8,9,10] (some 11) [([],(some 12)),([],none)] (by kernel_rfl) (by kernel_rfl) ?_
 refine z_l ?_;refine z_m ?_;refine z_u ?_;refine Wp_pure rfl rfl rfl rfl rfl (fun _=>A_ix (k:=i-1) Und.h Tsz.h rfl (by show some (i64 ((i:Int)-1))=some (i64 ((i-1:Nat):Int));congr 2;omega) (by omega)) ?_;refine z_r ?_;refine z_l ?_;refine z_m ?_;refine z_i ?_;refine z_r ?_
 refine Wp_new (nk:=.ptr) rfl rfl rfl rfl rfl (fun _ _ _=>N_alloc Zr.h) ?_
 refine Wp_new (nk:=.ptr) rfl rfl rfl rfl rfl (fun _ _ _=>N_alloc Zr.h) ?_
 have hEa:=Ext.add hw3 (.cells [i64 0,i64 0] 175 false)
 have hEb:=hEa.trans (Ext.add (hw3.add _) (.cells [i64 0,i64 0] 175 false))
 have ga:((h3.add (.cells [i64 0,i64 0] 175 false)).add (.cells [i64 0,i64 0] 175 false)).get h3.nx=some (.cells [i64 0,i64 0] 175 false):=(Ext.add (hw3.add _) _).get Heap.get_add_same
 have gb:((h3.add (.cells [i64 0,i64 0] 175 false)).add (.cells [i64 0,i64 0] 175 false)).get (h3.nx+1)=some (.cells [i64 0,i64 0] 175 false):=Heap.get_add_same
 refine Wp_eff (h1:=(Heap.add (Heap.add h3 _) _)) [0,1,2,3,4,9,10] (by kernel_rfl) rfl (Stl_nil rfl) rfl rfl rfl (W1_store rfl rfl Tsz.h rfl rfl ga rfl rfl rfl (fun h5 hU5=>?_))
 have hE5:=hU5.ext hEb hw3 (Nat.le_refl _)
 have gb5:=hU5.get (show h3.nx+1≠h3.nx by omega) gb
 have hr25:=hE5.row hr2
 have hg15:=hE5.get hg1
 refine Wp_eff (h1:=h5) [0,1,2,3,4,5,6,7,8,9,10,11] (by kernel_rfl) rfl (by refine t_r 8 ?_;refine t_i 7 ?_;refine t_m 6 ?_;refine t_l 5 ?_;exact Stl_nil rfl) rfl rfl rfl (W1_store rfl rfl Tsz.h rfl rfl gb5 rfl rfl rfl (fun h6 hU6=>?_))
 have hE6:=hU6.ext hE5 hw3 (Nat.le_succ _)
 have g6:=hU6.get (show h3.nx≠h3.nx+1 by omega) hU5.at'
 have g7:=hU6.at'
 have hg26:=hE6.get hg2
 refine Wp_end (h1:=h6) (Stl_nil rfl) rfl ?_
 refine zz ?_
 refine Wc_draw hmix [0,1,0,4,0,16,60,0,0,256,896,2044,0,4096,0,16384,61440,131068,262143,524287] [0,1,2,3,4,5,6,7,8,9,10,11,12,13,14,15,16,17,18] (some 19) [([],none)] (by kernel_rfl) (by kernel_rfl) ?_
 refine z_f ?_;refine z_l ?_;refine z_f ?_;refine z_l ?_;refine z_f ?_;refine z_l ?_;refine z_u ?_;refine z_l ?_;refine z_f ?_;refine z_l ?_;refine z_u ?_;refine Wp_pure rfl rfl rfl rfl rfl (fun _=>A_mul rfl rfl (by omega) (by omega)) ?_;refine z_f ?_;refine z_l ?_;refine z_f ?_;refine z_l ?_;refine z_u ?_;refine Wp_pure rfl rfl rfl rfl rfl (fun _=>A_quo rfl rfl (by omega) rfl (by omega) (by omega)) ?_;refine z_y ?_
 refine Wp_eff [0,1,2,3,4,5,6,7,8,9,10,11,12,13,14,15,16,17,18] (by kernel_rfl) rfl (Stl_nil rfl) rfl nb rfl (W1_op rfl rfl (A_assign rfl) ?_)
 refine Wp_end (Stl_nil rfl) nb' ?_
 refine zz ?_
 exact Wc_ret (Lv_ret rfl ⟨rfl,hE.trans hE6⟩)
end Go.Dw
/- E5: contracts of decay: the strength of a climate, in the program and in the reference. -/
namespace Go.Dw
open Go Go.Dx Go.Proofs
set_option maxRecDepth 100000
def dV (d:DDay):Value:=.agg ⟨[i64 d.temp.lo,i64 d.temp.hi,i64 d.damp.lo,i64 d.damp.hi]⟩
set_option maxHeartbeats 2000000 in
theorem strength_sv {rr:List Value}{r:DRule}{d:DDay}{h:Heap}(hr:RuleAt h rr r)(hR:RuleOk r)(hd:DayOk d) :
  Sv Tryz.prog 114 [.agg ⟨rr⟩,dV d] h (RetP fun v h'=>v=spV (strongS r d)/\Ext h h'):=by
 obtain⟨ah,ch,aw,cw,g0,g1,g2,_,rfl,hPh,hPw⟩:=hr
 have t0:=hd.t0;have t1:=hd.t1;have t2:=hd.t2;have d0:=hd.d0;have d1:=hd.d1;have d2:=hd.d2
 have k1:=factor_rng (n:=d.temp.lo) hR.heat
 have k2:=factor_rng (n:=d.temp.hi) hR.heat
 have k3:=factor_rng (n:=d.damp.lo) hR.wet
 have k4:=factor_rng (n:=d.damp.hi) hR.wet
 have p1:=part_rng (x:=factorS r.heat d.temp.lo) (y:=factorS r.wet d.damp.lo) (w:=1000) k1.1 k3.1 (by decide) k3.2
 have p2:=part_rng (x:=factorS r.heat d.temp.hi) (y:=factorS r.wet d.damp.hi) (w:=1000) k2.1 k4.1 (by decide) k4.2
 have m1:0<=factorS r.heat d.temp.lo*factorS r.wet d.damp.lo:=Int.mul_nonneg k1.1 k3.1
 have m2:0<=factorS r.heat d.temp.hi*factorS r.wet d.damp.hi:=Int.mul_nonneg k2.1 k4.1
 have m3:factorS r.heat d.temp.lo*factorS r.wet d.damp.lo<=1000*1000:=Int.mul_le_mul k1.2 k3.2 k3.1 (by decide)
 have m4:factorS r.heat d.temp.hi*factorS r.wet d.damp.hi<=1000*1000:=Int.mul_le_mul k2.2 k4.2 k4.1 (by decide)
 refine Sv_wf fun hw=>?_
 refine Sv_enter Tryz.func114 rfl (by rw[Tryz.ntmps114];rfl) ?_;show Wc Tryz.prog ⟨114,34,none⟩ _ _ _ _ _
 refine zz ?_
 refine Wo_box rfl rfl rfl fun h1 hE1 hW1 hg1 hn1=>?_
 refine Wo_box rfl rfl rfl fun h2 hE2 hW2 hg2 hn2=>?_
 refine Wo_alloc rfl rfl Zr.h fun h3 hE3 hW3 hg3 hn3=>?_
 have hE:=(hE1.trans hE2).trans hE3
 replace hg1:=(hE2.trans hE3).get hg1
 replace hg2:=hE3.get hg2
 have hq:=(hE1.trans hE2).2.1
 clear hE1 hE2 hE3 hW1 hW2 hn1 hn2
 generalize h2.nx=b4 at *
 generalize h1.nx=b3 at *
 generalize hqh:h.nx=b2 at *
 clear h2 h1
 refine zz ?_
 refine Wc_draw hmix [0,1,0,4,12,31,0,64,0,256,768,2047,4095,8191,0,16384,0,65536,196608,511999,0,1048576,0,4194304,12582912,33542143,67096575,134205439,268435455,536870911] [0,1,2,3,4,6,7,8,9,10,14,15,16,17,18,20,21,22,23,24] (some 5) [([],(some 11)),([12,13],(some 19)),([],(some 25)),([26,27,28],(some 29)),([],none)] (by kernel_rfl) (by kernel_rfl) ?_
 refine z_f ?_;refine z_l ?_;refine z_f ?_;refine z_f ?_;refine z_l ?_;refine z_f ?_;refine z_l ?_;refine z_f ?_;refine z_f ?_;refine z_l ?_;refine z_f ?_;refine z_l ?_;refine z_f ?_;refine z_f ?_;refine z_l ?_;refine z_f ?_;refine z_l ?_;refine z_f ?_;refine z_f ?_;refine z_l ?_
 refine Wp_eff [0,1,2,3,4] (by kernel_rfl) rfl (Stl_nil rfl) rfl nb rfl (W1_callE rfl rfl rfl rfl rfl Bod.h (factor_sv (RowsAt.ext (R:=PtR) (fun x _=>x) hPh hE) hR.heat (by decide) (by decide) (show -300<=d.temp.lo/\d.temp.lo<=1000 by omega)) (fun h4 hE4=>?_))
 replace hg1:=hE4.get hg1
 replace hg2:=hE4.get hg2
 replace hg3:=hE4.get hg3
 replace hE:=hE.trans hE4
 refine Wp_eff [0,1,2,3,4,5,6,7,8,9,10] (by kernel_rfl) rfl (by refine t_l 24 ?_;refine t_f 23 ?_;refine t_f 22 ?_;refine t_l 21 ?_;refine t_f 20 ?_;refine t_l 18 ?_;refine t_f 17 ?_;refine t_f 16 ?_;refine t_l 15 ?_;refine t_f 14 ?_;refine t_l 10 ?_;refine t_f 9 ?_;refine t_f 8 ?_;refine t_l 7 ?_;refine t_f 6 ?_;exact Stl_nil rfl) rfl nb rfl (W1_callE rfl rfl rfl rfl rfl Bod.h (factor_sv (RowsAt.ext (R:=PtR) (fun x _=>x) hPw hE) hR.wet (by decide) (by decide) (show -300<=d.damp.lo/\d.damp.lo<=1000 by omega)) (fun h5 hE5=>?_))
 replace hg1:=hE5.get hg1
 replace hg2:=hE5.get hg2
 replace hg3:=hE5.get hg3
 replace hE:=hE.trans hE5
 refine Wp_pure rfl rfl rfl rfl rfl (fun _=>A_mul rfl rfl (by omega) (by omega)) ?_;refine Wp_pure rfl rfl rfl rfl rfl (fun _=>A_quo rfl rfl (by decide) rfl (by omega) (by omega)) ?_
 refine Wp_eff [0,1,2,3,4,5,6,7,8,9,10,11,14,15,16,17,18] (by kernel_rfl) rfl (by refine t_l 24 ?_;refine t_f 23 ?_;refine t_f 22 ?_;refine t_l 21 ?_;refine t_f 20 ?_;refine t_l 18 ?_;refine t_f 17 ?_;refine t_f 16 ?_;refine t_l 15 ?_;refine t_f 14 ?_;exact Stl_nil rfl) rfl nb rfl (W1_callE rfl rfl rfl rfl rfl Bod.h (factor_sv (RowsAt.ext (R:=PtR) (fun x _=>x) hPh hE) hR.heat (by decide) (by decide) (show -300<=d.temp.hi/\d.temp.hi<=1000 by omega)) (fun h6 hE6=>?_))
 replace hg1:=hE6.get hg1
 replace hg2:=hE6.get hg2
 replace hg3:=hE6.get hg3
 replace hE:=hE.trans hE6
 refine Wp_eff [0,1,2,3,4,5,6,7,8,9,10,11,14,15,16,17,18,19,20,21,22,23,24] (by kernel_rfl) rfl (by refine Stl_pure (i:=13) rfl rfl rfl rfl rfl (fun _=>A_quo rfl rfl (by decide) rfl (by omega) (by omega)) rfl ?_;refine Stl_pure (i:=12) rfl rfl rfl rfl rfl (fun _=>A_mul rfl rfl (by omega) (by omega)) rfl ?_;refine t_l 24 ?_;refine t_f 23 ?_;refine t_f 22 ?_;refine t_l 21 ?_;refine t_f 20 ?_;exact Stl_nil rfl) rfl nb rfl (W1_callE rfl rfl rfl rfl rfl Bod.h (factor_sv (RowsAt.ext (R:=PtR) (fun x _=>x) hPw hE) hR.wet (by decide) (by decide) (show -300<=d.damp.hi/\d.damp.hi<=1000 by omega)) (fun h7 hE7=>?_))
 replace hg1:=hE7.get hg1
 replace hg2:=hE7.get hg2
 replace hg3:=hE7.get hg3
 replace hE:=hE.trans hE7
 refine Wp_pure rfl rfl rfl rfl rfl (fun _=>A_mul rfl rfl (by omega) (by omega)) ?_;refine Wp_pure rfl rfl rfl rfl rfl (fun _=>A_quo rfl rfl (by decide) rfl (by omega) (by omega)) ?_;refine z_b ?_
 refine Wp_eff [0,1,2,3,4,5,6,7,8,9,10,11,12,13,14,15,16,17,18,19,20,21,22,23,24,25,26,27,28] (by kernel_rfl) rfl (by refine Stl_pure (i:=13) rfl rfl rfl rfl rfl (fun _=>A_quo rfl rfl (by decide) rfl (by omega) (by omega)) rfl ?_;refine Stl_pure (i:=12) rfl rfl rfl rfl rfl (fun _=>A_mul rfl rfl (by omega) (by omega)) rfl ?_;exact Stl_nil rfl) rfl nb rfl (W1_store rfl rfl Tsz.h rfl rfl hg3 rfl rfl rfl (fun h8 hU8=>?_))
 refine Wp_end (Stl_nil rfl) nb' ?_
 refine zz ?_
 have hg8:=hU8.at'
 exact Wc_ret (Lv_ret (vs:=[spV (strongS r d)]) (resk_cell rfl (aload_row RowC.h (rowAt_cells hg8 rfl)) rfl) ⟨rfl,hU8.ext hE hw (by omega)⟩)
end Go.Dw
/- E6: contracts of decay: the levels that keep to a test. -/
namespace Go.Dw
open Go Go.Dx Go.Proofs
set_option maxRecDepth 100000
def tV (x:DTest):Value:=.agg ⟨[i64 x.day,i64 x.grade,i64 x.error]⟩
theorem grade_cell {h:Heap}{b k:Nat}{c0 c1 c2 c3:Value}{g0 g1 g2:Int}{rest:List Value}{el:TypeId}{op:Bool}(hg:h.get b=some (.cells (c0::c1::c2::c3::i64 g0::i64 g1::i64 g2::rest) el op))(hk:k<3):cellAt h b (0+0+4+k*1)=some (i64 ([g0,g1,g2].getD k 0)):=by
 rcases (show k=0\/k=1\/k=2 by omega) with rfl|rfl|rfl <;> exact cellAt_cells hg rfl
set_option maxHeartbeats 2000000 in
theorem keep_sv {bx:Nat}{c0 c1 c2 c3:Value}{g0 g1' g2':Int}{rest:List Value}{el:TypeId}{op:Bool}{x:DTest}{h:Heap}(hg:h.get bx=some (.cells (c0::c1::c2::c3::i64 g0::i64 g1'::i64 g2'::rest) el op))
  (q0:0<=x.grade) (q1:x.grade<=3) (q2:0<=x.error) (q3:x.error<=3) (hG:∀n∈[g0,g1',g2'],1<=n/\n<=1000000) :
  Sv Tryz.prog 118 [ptr bx,tV x] h (RetP fun v h'=>v=spV (keepS [g0,g1',g2'] x)/\Ext h h'):=by
 have G0:=hG g0 (by simp)
 have G1:=hG g1' (by simp)
 have G2:=hG g2' (by simp)
 have hGk:∀k,k<3->1<=[g0,g1',g2'].getD k 0/\[g0,g1',g2'].getD k 0<=1000000:=fun k hk=>by
  rcases (show k=0\/k=1\/k=2 by omega) with rfl|rfl|rfl
  ·exact G0
  ·exact G1
  ·exact G2
 refine Sv_wf fun hw=>?_
 refine Sv_enter Tryz.func118 rfl (by rw[Tryz.ntmps118];rfl) ?_;show Wc Tryz.prog ⟨118,42,none⟩ _ _ _ _ _
 refine zz ?_
 refine Wo_box rfl rfl rfl fun h1 hE1 hW1 hg3 hn1=>?_
 refine Wo_alloc rfl rfl Zr.h fun h2 hE2 hW2 hg4 hn2=>?_
 replace hg3:=hE2.get hg3
 have hq1:=hE1.2.1
 refine zz ?_
 refine Wo_do rfl rfl rfl rfl (A_build rfl rfl) ?_
 refine Wo_allocStore rfl rfl Zr.h Tsz.h rfl (fun _=>rfl) rfl rfl rfl fun h3 hE3 hW3 hg5 hn3=>?_
 replace hg3:=hE3.get hg3
 replace hg4:=hE3.get hg4
 have hE:=(hE1.trans hE2).trans hE3
 clear hE1 hE2 hE3 hW1 hW2
 generalize hb5:h2.nx=b5 at *
 generalize hb4:h1.nx=b4 at *
 generalize hb3:h.nx=b3 at *
 refine zz ?_
 by_cases c1:0<x.grade-x.error
 ·obtain⟨k1,hk1',hk13⟩:∃k:Nat,x.grade-x.error-1=(k:Int)/\k<3:=⟨(x.grade-x.error-1).toNat,by omega,by omega⟩
  have hk1:(x.grade-x.error-1).toNat=k1:=by omega
  have hcL:=grade_cell (k:=k1) (hE.get hg) hk13
  refine Wo_do rfl rfl rfl rfl (A_tt c1 (A_gtr rfl rfl)) ?_
  refine zz ?_
  refine Wo_do rfl rfl rfl rfl (A_nilCheck rfl) ?_
  refine zz ?_
  refine Wo_do rfl rfl rfl rfl (A_indexArr (k:=k1) Und.h Tsz.h rfl rfl hk1' hk13) ?_
  refine zz ?_
  refine Wo_store rfl Tsz.h rfl rfl hg5 rfl rfl rfl fun h4 hU4=>?_
  have hE4:=hU4.ext hE hw (by omega)
  have hT:=hU4.at'
  have hg33:=hU4.get (show b3≠b5 by omega) hg3
  have hR0:=hU4.get (show b4≠b5 by omega) hg4
  have hGh:=hGk
  refine zz ?_
  by_cases c2:x.grade+x.error<3
  ·obtain⟨k2,hk2,hk23⟩:∃k:Nat,x.grade+x.error=(k:Int)/\k<3:=⟨(x.grade+x.error).toNat,by omega,by omega⟩
   have hGq:=hGk k2 hk23
   have hcG:=grade_cell (k:=k2) (hE4.get hg) hk23
   refine Wo_do rfl rfl rfl rfl (A_tt c2 (A_lss rfl rfl)) ?_
   refine zz ?_
   refine Wo_do rfl rfl rfl rfl (A_nilCheck rfl) ?_
   refine zz ?_
   refine Wo_do rfl rfl rfl rfl (A_indexArr (k:=k2) Und.h Tsz.h rfl rfl hk2 hk23) ?_
   refine zz ?_
   refine Wo_store rfl Tsz.h rfl rfl hT rfl rfl rfl fun g1 hU1=>?_
   have hF:=hU1.at'
   have hR:=hU1.get (show b4≠b5 by omega) hR0
   refine zz ?_
   refine Wo_store rfl Tsz.h rfl rfl hR rfl rfl rfl fun g2 hU2=>?_
   refine zz ?_
   have hg8:=hU2.at'
   have hres:keepS [g0,g1',g2'] x=⟨[g0,g1',g2'].getD k1 0,[g0,g1',g2'].getD k2 0-1⟩:=by
    unfold keepS
    rw[if_pos c1,hk1,if_pos c2,hk2,Int.toNat_natCast]
   rw[hres]
   exact Wc_ret (Lv_ret (vs:=[spV ⟨[g0,g1',g2'].getD k1 0,[g0,g1',g2'].getD k2 0-1⟩]) (resk_cell rfl (aload_row RowC.h (rowAt_cells hg8 rfl)) rfl) ⟨rfl,hU2.ext (hU1.ext hE4 hw (by omega)) hw (by omega)⟩)
  ·refine Wo_do rfl rfl rfl rfl (A_ff c2 (A_lss rfl rfl)) ?_
   refine zz ?_
   refine Wo_store rfl Tsz.h rfl rfl hR0 rfl rfl rfl fun g2 hU2=>?_
   refine zz ?_
   have hg8:=hU2.at'
   have hres:keepS [g0,g1',g2'] x=⟨[g0,g1',g2'].getD k1 0,1000000⟩:=by
    unfold keepS
    rw[if_pos c1,hk1,if_neg c2]
   rw[hres]
   exact Wc_ret (Lv_ret (vs:=[spV ⟨[g0,g1',g2'].getD k1 0,1000000⟩]) (resk_cell rfl (aload_row RowC.h (rowAt_cells hg8 rfl)) rfl) ⟨rfl,hU2.ext hE4 hw (by omega)⟩)
 refine Wo_do rfl rfl rfl rfl (A_ff c1 (A_gtr rfl rfl)) ?_
 refine zz ?_
 by_cases c2:x.grade+x.error<3
 ·obtain⟨k2,hk2,hk23⟩:∃k:Nat,x.grade+x.error=(k:Int)/\k<3:=⟨(x.grade+x.error).toNat,by omega,by omega⟩
  have hGq:=hGk k2 hk23
  have hcG:=grade_cell (k:=k2) (hE.get hg) hk23
  refine Wo_do rfl rfl rfl rfl (A_tt c2 (A_lss rfl rfl)) ?_
  refine zz ?_
  refine Wo_do rfl rfl rfl rfl (A_nilCheck rfl) ?_
  refine zz ?_
  refine Wo_do rfl rfl rfl rfl (A_indexArr (k:=k2) Und.h Tsz.h rfl rfl hk2 hk23) ?_
  refine zz ?_
  refine Wo_store rfl Tsz.h rfl rfl hg5 rfl rfl rfl fun g1 hU1=>?_
  have hF:=hU1.at'
  have hR:=hU1.get (show b4≠b5 by omega) hg4
  refine zz ?_
  refine Wo_store rfl Tsz.h rfl rfl hR rfl rfl rfl fun g2 hU2=>?_
  refine zz ?_
  have hg8:=hU2.at'
  have hres:keepS [g0,g1',g2'] x=⟨0,[g0,g1',g2'].getD k2 0-1⟩:=by
   unfold keepS
   rw[if_neg c1,if_pos c2,hk2,Int.toNat_natCast]
  rw[hres]
  exact Wc_ret (Lv_ret (vs:=[spV ⟨0,[g0,g1',g2'].getD k2 0-1⟩]) (resk_cell rfl (aload_row RowC.h (rowAt_cells hg8 rfl)) rfl) ⟨rfl,hU2.ext (hU1.ext hE hw (by omega)) hw (by omega)⟩)
 ·refine Wo_do rfl rfl rfl rfl (A_ff c2 (A_lss rfl rfl)) ?_
  refine zz ?_
  refine Wo_store rfl Tsz.h rfl rfl hg4 rfl rfl rfl fun g2 hU2=>?_
  refine zz ?_
  have hg8:=hU2.at'
  have hres:keepS [g0,g1',g2'] x=⟨0,1000000⟩:=by
   unfold keepS
   rw[if_neg c1,if_neg c2]
  rw[hres]
  exact Wc_ret (Lv_ret (vs:=[spV ⟨0,1000000⟩]) (resk_cell rfl (aload_row RowC.h (rowAt_cells hg8 rfl)) rfl) ⟨rfl,hU2.ext hE hw (by omega)⟩)
end Go.Dw
/- E7: contracts of decay: the reference's keeping and on. -/
namespace Go.Dw
open Go Go.Dx Go.Proofs
set_option maxRecDepth 100000
def loK (g:List Int)(x:DTest)(i:Nat):Int:=if 0<min (x.grade-x.error) (i:Int) then g.getD (min (x.grade-x.error) (i:Int)-1).toNat 0 else 0
def hiK (g:List Int)(x:DTest)(i:Nat):Int:=if x.grade+x.error<(i:Int) then g.getD (x.grade+x.error).toNat 0-1 else 1000000
end Go.Dw
