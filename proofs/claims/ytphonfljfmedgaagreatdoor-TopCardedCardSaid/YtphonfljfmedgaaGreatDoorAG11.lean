/- U5: structs in structs compared: spans, notes; keys of notes. -/
import Derived.Laws.StructEq
import Derived.Test.YtphonfljfmedgaaGreatDoorAG9
import Derived.Test.YtphonfljfmedgaaGreatDoorAG10
import Derived.Test.YtphonfljfmedgaaGreatDoorAG2
import Derived.Test.YtphonfljfmedgaaGreatDoorAG6
set_option linter.unusedVariables false
set_option linter.unusedSimpArgs false
namespace Go.Dw
open Go Go.Dx Go.Proofs
set_option maxRecDepth 100000
section
variable {P:Program}
theorem ZBU (d : Nat) (xs ys : Array Value) (w : World) : ∀ (fs : List Field) (bs : List Bool), (fs.all fun f => !(f.name == "_")) = true -> fs.length = bs.length →
  (∀(i:Nat) (p:TypeId×Nat) (b:Bool),(fs.map fun f=>(f.type,f.offset))[i]?=some p->bs[i]?=some b->∃a c,(part p.1 xs p.2).run P w=.ok a w/\(part p.1 ys p.2).run P w=.ok c w/\(Op.equalIn d p.1 a c).run P w=.ok b w)->(Op.eqFields d xs ys fs).run P w=.ok (bs.all id) w
 | [],[],_,_,_=>rfl
 | [],_::_,_,h,_=>nomatch h
 | _::_,[],_,h,_=>nomatch h
 | f::fs,b::bs,hn,hl,h=>by
  rw[List.all_cons,Bool.and_eq_true] at hn;have hne : f.name ≠ "_" := by
   intro e;rw[e] at hn;exact absurd hn.1 (by decide)
  have ih:=ZBU d xs ys w fs bs hn.2 (by simpa using hl) fun i p b hp hb=>h (i+1) p b hp hb;obtain⟨a,c,h1,h2,h3⟩:=h 0 _ b rfl rfl;simp only at h1 h2 h3;simp only[Op.eqFields,if_pos hne,Sem.run_bind,h1,h2,h3,Result.andThen_ok]
  cases b with
  | true=>simpa using ih
  | false=>rfl
theorem ZFQ {t:TypeId}{dd:TypeDesc}{n:Nat}(hu:P.underlying t=some dd)(hd:ZDH dd=true)(hz:tsz P t=some n)(cs:Array Value)(o:Nat)(w:World):(part t cs o).run P w=.ok (.agg (cs.extract o (o+n))) w:=by
 simp only[part,Sem.run_bind,ZC7 hu,Result.andThen_ok,hd,if_true,Dx.run_sizeOf hz,Sem.run_pure]
end
theorem ZBL (a b:Int)(d:Nat)(w:World):(Op.equalIn (d+1) 3 (i64 a) (i64 b)).run Tryz.prog w=.ok (decide (a=b)) w:=by
 simp[Op.equalIn,run_underlying Tryz.underlying3]
 rfl
theorem ZLh (a b:List UInt8)(d:Nat)(w:World):(Op.equalIn (d+1) 9 (str a) (str b)).run Tryz.prog w=.ok (decide (a=b)) w:=by
 simp[Op.equalIn,run_underlying Tryz.underlying9,ZJl]
theorem ZFo (a b a' b':Int)(d:Nat)(w:World):(Op.equalIn (d+2) 23 (.agg ⟨[i64 a,i64 b]⟩) (.agg ⟨[i64 a',i64 b']⟩)).run Tryz.prog w=.ok (decide (a=a'/\b=b')) w:=by
 rw[run_equalIn_struct _ _ _ _ _ (by kernel_rfl) (by kernel_rfl),ZBU _ _ _ _ _ [decide (a=a'),decide (b=b')] (by kernel_rfl) (by kernel_rfl)]
 ·simp
 ·have e:((Tryz.prog.fieldsOf 23).toList.map fun f=>(f.type,f.offset))=[(3,0),(3,1)]:=by kernel_rfl
  rw[e];rintro i p q hp hq
  match i,hp,hq with
  | 0,hp,hq=>cases hp;cases hq;exact⟨i64 a,i64 a',ZAd Tryz.underlying3 rfl rfl w,ZAd Tryz.underlying3 rfl rfl w,ZBL _ _ _ _⟩
  | 1,hp,hq=>cases hp;cases hq;exact⟨i64 b,i64 b',ZAd Tryz.underlying3 rfl rfl w,ZAd Tryz.underlying3 rfl rfl w,ZBL _ _ _ _⟩
theorem ZQQ (x y:Nt)(d:Nat)(w:World):(Op.equalIn (d+3) 46 (.agg ⟨rowN x⟩) (.agg ⟨rowN y⟩)).run Tryz.prog w=.ok (decide (x=y)) w:=by
 rw[run_equalIn_struct _ _ _ _ _ (by kernel_rfl) (by kernel_rfl),ZBU _ _ _ _ _ [decide (x.who=y.who),decide (x.number=y.number),decide (x.rev=y.rev),decide (x.kind=y.kind),decide (x.frm=y.frm),decide (x.til=y.til),decide (x.lo=y.lo/\x.hi=y.hi)] (by kernel_rfl) (by kernel_rfl)]
 ·obtain⟨a1,a2,a3,a4,a5,a6,a7,a8⟩:=x
  obtain⟨b1,b2,b3,b4,b5,b6,b7,b8⟩:=y;simp only[List.all_cons,List.all_nil,id,Bool.and_true,Nt.mk.injEq,Bool.decide_and]
 ·have e:((Tryz.prog.fieldsOf 46).toList.map fun f=>(f.type,f.offset))=[(9,0),(3,1),(3,2),(3,3),(3,4),(3,5),(23,6)]:=by kernel_rfl
  rw[e];have ii:∀{xs:Array Value} {o:Nat} {v:Int},xs[o]?=some (i64 v)->(part 3 xs o).run Tryz.prog w=.ok (i64 v) w:=fun h=>ZAd Tryz.underlying3 rfl h w;rintro i p q hp hq
  match i,hp,hq with
  | 0,hp,hq=>cases hp;cases hq;exact⟨str x.who,str y.who,ZAd Tryz.underlying9 rfl rfl w,ZAd Tryz.underlying9 rfl rfl w,ZLh _ _ _ _⟩
  | 1,hp,hq=>cases hp;cases hq;exact⟨i64 x.number,i64 y.number,ii rfl,ii rfl,ZBL _ _ _ _⟩
  | 2,hp,hq=>cases hp;cases hq;exact⟨i64 x.rev,i64 y.rev,ii rfl,ii rfl,ZBL _ _ _ _⟩
  | 3,hp,hq=>cases hp;cases hq;exact⟨i64 x.kind,i64 y.kind,ii rfl,ii rfl,ZBL _ _ _ _⟩
  | 4,hp,hq=>cases hp;cases hq;exact⟨i64 x.frm,i64 y.frm,ii rfl,ii rfl,ZBL _ _ _ _⟩
  | 5,hp,hq=>cases hp;cases hq;exact⟨i64 x.til,i64 y.til,ii rfl,ii rfl,ZBL _ _ _ _⟩
  | 6,hp,hq=>cases hp;cases hq;exact⟨.agg ⟨[i64 x.lo,i64 x.hi]⟩,.agg ⟨[i64 y.lo,i64 y.hi]⟩,ZFQ (n:=2) Tryz.underlying23 rfl Tsz.h _ _ w,ZFQ (n:=2) Tryz.underlying23 rfl Tsz.h _ _ w,ZFo _ _ _ _ _ _⟩
theorem ntG:Tryz.prog.eqGuardType Tryz.prog.depth 46=false:=by kernel_rfl
theorem ZKm {m:Mem}{h:Heap}{d:Option Tmp}{ty:TypeId}{pos:String}{af:Array Edge}{gu:Option (Nat×Bool)}{tz:TypeId}{z z':Nt}{x y:Operand}(hx:opk h m x=some (.agg ⟨rowN z⟩))(hy:opk h m y=some (.agg ⟨rowN z'⟩)) :
  Aop Tryz.prog ⟨d,.binOp .neq 46 x y tz,ty,pos,af,gu⟩ m h (.bool (decide (¬z=z'))) h :=
 ZCe hx hy rfl rfl rfl fun w=>by
  simp only[Sem.run_bind,run_eqGuard_agg _ _ _ _ _ _ _ ntG,Result.andThen_ok];rw[run_neq_struct];rw[ZQQ z z' 9997 w];simp
noncomputable def keyN:KeyK Tryz.prog 144 Key where
 enc:=fun k=>.agg ⟨[str k.1,i64 k.2]⟩
 ks:=.struct [(.string,0),(.int .i64,1)]
 hks:=by kernel_rfl
 flat:=fun _=>rfl
 ok:=fun _=>rfl
 eq:=fun a b=>by
  obtain⟨a1,a2⟩:=a;obtain⟨b1,b2⟩:=b
  show eqFs [(.string,0),(.int .i64,1)] [str a1,i64 a2] [str b1,i64 b2]=_
  have e:∀x y:Int,(x == y)=decide (x=y):=fun _ _=>rfl;simp only[eqFs,nth,Instr.sameNow,e,ZJl,Prod.mk.injEq]
  by_cases h1:a1=b1 <;> by_cases h2:a2=b2 <;> simp[h1,h2]
 same:=fun a=>by simp[Instr.sameBits,ZJl]
abbrev rowM (m:I3):List Value:=[i64 m.1,i64 m.2.1,i64 m.2.2]
abbrev rowP (x:Int×Int):List Value:=[i64 x.1,i64 x.2]
abbrev TabA {α:Type}(enc:α->List Value)(k:Nat)(h:Heap)(a:Option Addr)(l:List α):Prop:=ZAV k (fun _ row x=>row=enc x) h a l
theorem TabA.ext' {α:Type}{enc:α->List Value}{k:Nat}{h h':Heap}{a:Option Addr}{l:List α}(hl:TabA enc k h a l)(he:Ext h h'):TabA enc k h' a l:=ZAV.ext (fun hr _=>hr) hl he
structure RlAt (h:Heap)(am as' al:Option Addr)(r:Rl):Prop where
 m:TabA rowM 3 h am r.marks
 s:TabA rowP 2 h as' r.syms
 l:TabA rowM 3 h al r.lens
theorem RlAt.ext {h h':Heap}{am as' al:Option Addr}{r:Rl}(a:RlAt h am as' al r)(he:Ext h h'):RlAt h' am as' al r:=⟨a.m.ext' he,a.s.ext' he,a.l.ext' he⟩
structure Rl.Fit (r:Rl):Prop where
 name:r.name.length<=281474976710656
 m:Len r.marks
 s:Len r.syms
 l:Len r.lens
theorem ZRb {r:Rl}(h:ZCA r=0):1<=r.frames/\r.frames<=200000:=by
 unfold ZCA at h
 split at h
 ·exact absurd h (by decide)
 split at h
 ·exact absurd h (by decide)
 split at h
 ·exact absurd h (by decide)
 omega
set_option maxHeartbeats 4000000 in
theorem ZHe {r:Rl}{am as' al:Option Addr}{cm cs cl:Nat}{h:Heap}(hF:r.Fit)(hR:RlAt h am as' al r) :
  Sv Tryz.prog 17 [.agg ⟨rowR r am cm as' cs al cl⟩] h (RetP fun v h'=>(∃p a,v=.tuple ⟨[i64 p,i64 a,i64 (ZBc r)]⟩)/\Ext h h'):=by
 obtain⟨hFn,hFm,hFs,hFl⟩:=hF;refine ZA0 fun hw=>?_;refine ZAF Tryz.func17 rfl (by rw[Tryz.ntmps17];rfl) ?_;show Wc Tryz.prog ⟨17,107,none⟩ _ _ _ _ _;refine zy ?_;refine ZAv rfl rfl rfl fun h1 hE1 hW1 hg1 hn1=>?_;generalize hb1:h.nx=b1 at *;refine zy ?_;refine zW (ZQS hFn) fun h2 hE2=>?_;have g2:=hE2.get hg1;replace hE2:=hE1.trans hE2;clear hg1 hE1;refine zy ?_
 by_cases c1:ZCA r=0
 rotate_left
 ·refine zD (A_tt c1 (ZA3 rfl rfl)) ?_
  exact ZAB (ZAC rfl ⟨⟨_,_,by unfold ZBc;rw[if_pos c1];rfl⟩,hE2⟩)
 refine zE (A_ff (fun q=>q c1) (ZA3 rfl rfl)) ?_;have hfr:=ZRb c1;have e1:ZBc r=if 60<r.marks.length then 3 else if ZBu r.frames (-1) r.marks≠0 then ZBu r.frames (-1) r.marks else if 20<r.syms.length then 3 else if ZCh r.syms≠0 then ZCh r.syms else if 20<r.lens.length then 3 else ZDn r.frames r.lens:=by unfold ZBc;rw[if_neg (fun q=>q c1)]
 rw[e1];clear e1 c1;refine zy ?_;refine zC (ZBw rfl rfl) (fun c2=>?_) (fun c2=>?_)
 ·refine zy ?_
  exact ZAB (ZAC rfl ⟨⟨_,_,by rw[if_pos (by omega)];rfl⟩,hE2⟩)
 rw[if_neg (by omega)];refine zy ?_;refine ZAS (fun (st:Nat×Int) m ds h'=>ds=[]/\Ext h h'/\h'.get b1=some (.cells (rowR r am cm as' cs al cl) 28 false)/\st.1<=r.marks.length/\ZBu r.frames (-1) r.marks=ZBu r.frames st.2 (r.marks.drop st.1)/\AllK m [(1,.pointer (some ⟨b1,0,none⟩)),(5,i64 st.2),(22,.slice am r.marks.length cm),(23,i64 r.marks.length),(24,i64 (st.1:Nat))]) (fun st=>r.marks.length-st.1) (0,-1) ?_ ?_
 ·exact⟨rfl,hE2,g2,Nat.zero_le _,rfl,rfl,rfl,rfl,rfl,rfl,trivial⟩
 clear g2 hE2 hW1;rintro⟨k,b⟩ m ds h3 ⟨rfl,hE3,g3,hk,hF,hall⟩;refine Wc.le (ZBg fun hW3=>?_) (Le.kn hall);clear hall;simp only at hk hF ⊢;refine zy ?_;refine zC (ZAx rfl rfl) (fun hlt=>?_) (fun hlt=>?_)
 ·have hk':k<r.marks.length:=by omega
  rw[List.drop_eq_getElem_cons hk',ZBu] at hF;obtain⟨bm,o,oa,rfl,row,hrow,hx⟩:=hR.m k hk';generalize r.marks[k]=x at hF hx;have hx':row=rowM x:=hx;subst hx';have hrow1:=hE3.row hrow;refine zy ?_;refine zD (A_ix Und.h Tsz.h rfl rfl) ?_;refine ZAa rfl rfl Zr.h fun h4 hE4 hW4 hg4 hn4=>?_;refine zy ?_;refine ZAe rfl Tsz.h rfl rfl hg4 rfl rfl rfl fun h5 hU=>?_;have hE5:=hU.ext (hE3.trans hE4) hw (by have:=hE3.2.1;omega);have hg5:=hU.at';have g5:h5.get b1=some (.cells (rowR r (some ⟨bm,o,oa⟩) cm as' cs al cl) 28 false):=hU.get (fun e=>by have:=hW3 _ _ g3;omega) (hE4.get g3);clear hrow1 hU hg4 g3 hrow hE3 hE4
  refine zy ?_
  by_cases c3:x.1<0\/r.frames-1<x.1
  ·refine zU (ZAw (decide_eq_true c3) _) ?_
   rw[if_pos (.inl c3)] at hF;refine zy ?_;exact ZAB (ZAC rfl ⟨⟨_,_,by rw[hF];rfl⟩,hE5⟩)
  refine zV (ZAw (decide_eq_false c3) _) ?_
  by_cases c4:x.2.1<0\/99<x.2.1
  ·refine zU (ZAw (decide_eq_true c4) _) ?_
   rw[if_pos (.inr (.inl c4))] at hF;refine zy ?_;exact ZAB (ZAC rfl ⟨⟨_,_,by rw[hF];rfl⟩,hE5⟩)
  refine zV (ZAw (decide_eq_false c4) _) ?_
  by_cases c5:x.2.2<0\/9999<x.2.2
  ·refine zU (ZAw (decide_eq_true c5) _) ?_
   rw[if_pos (.inr (.inr c5))] at hF;refine zy ?_;exact ZAB (ZAC rfl ⟨⟨_,_,by rw[hF];rfl⟩,hE5⟩)
  refine zU (ZAw (decide_eq_false c5) _) ?_;rw[if_neg (by omega)] at hF;refine zy ?_;refine zC (ZO9 rfl rfl) (fun c6=>?_) (fun c6=>?_)
  ·rw[if_pos c6] at hF
   refine zy ?_;exact ZAB (ZAC rfl ⟨⟨_,_,by rw[hF];rfl⟩,hE5⟩)
  rw[if_neg c6] at hF;refine zy ?_;exact⟨(k+1,x.1),(by show r.marks.length-(k+1)<r.marks.length-k;omega),rfl,hE5,g5,hk',hF,rfl,rfl,rfl,rfl,rfl,trivial⟩
 have:k=r.marks.length:=by omega
 subst this;rw[List.drop_length] at hF;have hF0:ZBu r.frames (-1) r.marks=0:=hF;rw[if_neg (fun q=>q hF0)];clear hF hF0 hlt hk;refine zy ?_;refine zC (ZBw rfl rfl) (fun c2=>?_) (fun c2=>?_)
 ·refine zy ?_
  exact ZAB (ZAC rfl ⟨⟨_,_,by rw[if_pos (by omega)];rfl⟩,hE3⟩)
 rw[if_neg (by omega)];refine zy ?_;refine ZAS (fun (k:Nat) m ds h'=>ds=[]/\Ext h h'/\h'.get b1=some (.cells (rowR r am cm as' cs al cl) 28 false)/\k<=r.syms.length/\ZCh r.syms=ZCh (r.syms.drop k)/\AllK m [(1,.pointer (some ⟨b1,0,none⟩)),(61,.slice as' r.syms.length cs),(62,i64 r.syms.length),(63,i64 (k:Nat))]) (fun k=>r.syms.length-k) 0 ?_ ?_
 ·exact⟨rfl,hE3,g3,Nat.zero_le _,rfl,rfl,rfl,rfl,rfl,trivial⟩
 clear g3 hE3;rintro k m ds h3 ⟨rfl,hE3,g3,hk,hF,hall⟩;refine Wc.le (ZBg fun hW3=>?_) (Le.kn hall);clear hall;refine zy ?_;refine zC (ZAx rfl rfl) (fun hlt=>?_) (fun hlt=>?_)
 ·have hk':k<r.syms.length:=by omega
  rw[List.drop_eq_getElem_cons hk',ZCh] at hF;obtain⟨bm,o,oa,rfl,row,hrow,hx⟩:=hR.s k hk';generalize r.syms[k]=x at hF hx;have hx':row=rowP x:=hx;subst hx';have hrow1:=hE3.row hrow;refine zy ?_;refine zD (A_ix Und.h Tsz.h rfl rfl) ?_;refine ZAa rfl rfl Zr.h fun h4 hE4 hW4 hg4 hn4=>?_;refine zy ?_;refine ZAe rfl Tsz.h rfl rfl hg4 rfl rfl rfl fun h5 hU=>?_;have hE5:=hU.ext (hE3.trans hE4) hw (by have:=hE3.2.1;omega);have hg5:=hU.at';have g5:h5.get b1=some (.cells (rowR r am cm (some ⟨bm,o,oa⟩) cs al cl) 28 false):=hU.get (fun e=>by have:=hW3 _ _ g3;omega) (hE4.get g3);clear hrow1 hU hg4 g3 hrow hE3 hE4
  refine zy ?_
  by_cases c3:x.1<0\/99<x.1
  ·refine zU (ZAw (decide_eq_true c3) _) ?_
   rw[if_pos (.inl c3)] at hF;refine zy ?_;exact ZAB (ZAC rfl ⟨⟨_,_,by rw[hF];rfl⟩,hE5⟩)
  refine zV (ZAw (decide_eq_false c3) _) ?_
  by_cases c4:x.2<0\/19<x.2
  ·refine zU (ZAw (decide_eq_true c4) _) ?_
   rw[if_pos (.inr c4)] at hF;refine zy ?_;exact ZAB (ZAC rfl ⟨⟨_,_,by rw[hF];rfl⟩,hE5⟩)
  refine zU (ZAw (decide_eq_false c4) _) ?_;rw[if_neg (by omega)] at hF;refine zy ?_;exact⟨k+1,(by show r.syms.length-(k+1)<r.syms.length-k;omega),rfl,hE5,g5,hk',hF,rfl,rfl,rfl,rfl,trivial⟩
 have:k=r.syms.length:=by omega
 subst this;rw[List.drop_length] at hF;have hF0:ZCh r.syms=0:=hF;rw[if_neg (fun q=>q hF0)];clear hF hF0 hlt hk;refine zy ?_;refine zC (ZBw rfl rfl) (fun c2=>?_) (fun c2=>?_)
 ·refine zy ?_
  exact ZAB (ZAC rfl ⟨⟨_,_,by rw[if_pos (by omega)];rfl⟩,hE3⟩)
 rw[if_neg (by omega)];refine zy ?_;refine ZAS (fun (k:Nat) m ds h'=>ds=[]/\Ext h h'/\h'.get b1=some (.cells (rowR r am cm as' cs al cl) 28 false)/\k<=r.lens.length/\ZDn r.frames r.lens=ZDn r.frames (r.lens.drop k)/\AllK m [(1,.pointer (some ⟨b1,0,none⟩)),(83,.slice al r.lens.length cl),(84,i64 r.lens.length),(85,i64 (k:Nat))]) (fun k=>r.lens.length-k) 0 ?_ ?_
 ·exact⟨rfl,hE3,g3,Nat.zero_le _,rfl,rfl,rfl,rfl,rfl,trivial⟩
 clear g3 hE3;rintro k m ds h3 ⟨rfl,hE3,g3,hk,hF,hall⟩;refine Wc.le (ZBg fun hW3=>?_) (Le.kn hall);clear hall;refine zy ?_;refine zC (ZAx rfl rfl) (fun hlt=>?_) (fun hlt=>?_)
 ·have hk':k<r.lens.length:=by omega
  rw[List.drop_eq_getElem_cons hk',ZDn] at hF;obtain⟨bm,o,oa,rfl,row,hrow,hx⟩:=hR.l k hk';generalize r.lens[k]=x at hF hx;have hx':row=rowM x:=hx;subst hx';have hrow1:=hE3.row hrow;refine zy ?_;refine zD (A_ix Und.h Tsz.h rfl rfl) ?_;refine ZAa rfl rfl Zr.h fun h4 hE4 hW4 hg4 hn4=>?_;refine zy ?_;refine ZAe rfl Tsz.h rfl rfl hg4 rfl rfl rfl fun h5 hU=>?_;have hE5:=hU.ext (hE3.trans hE4) hw (by have:=hE3.2.1;omega);have hg5:=hU.at';have g5:h5.get b1=some (.cells (rowR r am cm as' cs (some ⟨bm,o,oa⟩) cl) 28 false):=hU.get (fun e=>by have:=hW3 _ _ g3;omega) (hE4.get g3);clear hrow1 hU hg4 g3 hrow hE3 hE4
  refine zy ?_
  by_cases c3:x.1<1\/r.frames<x.1
  ·refine zU (ZAw (decide_eq_true c3) _) ?_
   rw[if_pos (.inl c3)] at hF;refine zy ?_;exact ZAB (ZAC rfl ⟨⟨_,_,by rw[hF];rfl⟩,hE5⟩)
  refine zV (ZAw (decide_eq_false c3) _) ?_
  by_cases c4:x.2.1<1\/400000000<x.2.1
  ·refine zU (ZAw (decide_eq_true c4) _) ?_
   rw[if_pos (.inr (.inl c4))] at hF;refine zy ?_;exact ZAB (ZAC rfl ⟨⟨_,_,by rw[hF];rfl⟩,hE5⟩)
  refine zV (ZAw (decide_eq_false c4) _) ?_
  by_cases c5:x.2.2<0\/400000000<x.2.2
  ·refine zU (ZAw (decide_eq_true c5) _) ?_
   rw[if_pos (.inr (.inr c5))] at hF;refine zy ?_;exact ZAB (ZAC rfl ⟨⟨_,_,by rw[hF];rfl⟩,hE5⟩)
  refine zU (ZAw (decide_eq_false c5) _) ?_;rw[if_neg (by omega)] at hF;refine zy ?_;exact⟨k+1,(by show r.lens.length-(k+1)<r.lens.length-k;omega),rfl,hE5,g5,hk',hF,rfl,rfl,rfl,rfl,trivial⟩
 have:k=r.lens.length:=by omega
 subst this;rw[List.drop_length] at hF;have hF0:ZDn r.frames r.lens=0:=hF;refine zy ?_;exact ZAB (ZAC rfl ⟨⟨_,_,by rw[hF0];rfl⟩,hE3⟩)
end Go.Dw
