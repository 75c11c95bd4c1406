/- V1: contracts: strings.Builder, of a builder of the caller's own. -/
import Derived.Lib.ItoaLen
import Derived.Test.YtfgeelpahicelaaGreatDoorYG2
import Derived.Test.YtfgeelpahicelaaGreatDoorYG13
import Derived.Test.YtfgeelpahicelaaGreatDoorYG9
import Derived.Test.YtfgeelpahicelaaGreatDoorYG15
set_option linter.unusedVariables false
set_option linter.unusedSimpArgs false
namespace Go.Dw
open Go Go.Dx Go.Proofs
set_option maxRecDepth 100000
section
variable {h0 h:Heap}{b:Nat}{p v:Value}{I:List It}
theorem ZGv (hw0:WF h0)(he0:Ext h0 h)(hO:Own h0 h (ceI b [p,v] 162 false::I))(hp:p=.pointer none\/p=.pointer (some ⟨b,0,none⟩)):Sv Tryz.prog 152 [.pointer (some ⟨b,0,none⟩)] h (RetP fun _ h'=>Own h0 h' (ceI b [.pointer (some ⟨b,0,none⟩),v] 162 false::I)/\Ext h0 h'):=by
 refine ZFF fun hw=>?_;have hg:h.get b=_:=hO.p1;refine ZAJ Tryz.func152 rfl (by rw[Tryz.ntmps152];rfl) ?_;show Wc Tryz.prog ⟨152,20,none⟩ _ _ _ _ _;refine zy ?_
 rcases hp with rfl|rfl
 ·refine ZAB rfl rfl rfl rfl (ZKB Und.h rfl rfl) ?_
  refine zy ?_;refine ZAB rfl rfl rfl rfl (ZOZ (k:=1) rfl Und.h Tryz.underlying247 hg Tsz.h rfl) ?_;refine zy ?_;refine ZOS rfl (by intro c' e;cases e) rfl rfl (ZNE (fn:=Tryz.prog.funcs[(185:Nat)]!) (by kernel_rfl) (by kernel_rfl) rfl) ?_;refine zy ?_;refine ZAB rfl rfl rfl rfl (ZNZ (i:=(Tryz.prog.info? 162).getD default) rfl Tryz.underlying247 Und.h hg (by kernel_rfl) (by kernel_rfl)) ?_;refine zy ?_;refine ZDY rfl Tsz.h rfl rfl hg rfl rfl rfl fun h1 hU=>?_;refine zy ?_;exact ZGw rfl ((hO.putCe hw he0 hw0 hU).imp id id)
 ·refine ZAB rfl rfl rfl rfl (ZLk rfl rfl rfl (by intro n e;cases e)) ?_
  refine zy ?_;refine ZAB rfl rfl rfl rfl (ZLp rfl rfl (by kernel_rfl) (ZMQ (j:=(Tryz.prog.info? 162).getD default) Und.h (by kernel_rfl)) (by intro n e;cases e)) ?_;refine zy ?_;exact ZGw rfl ⟨hO,he0⟩
theorem ZC7 {bs s:List UInt8}(hw0:WF h0)(he0:Ext h0 h)(hO:Own h0 h (ceI b [p,v] 162 false::slI h0 v 5 1 (u8s bs) bs.length::I))(hp:p=.pointer none\/p=.pointer (some ⟨b,0,none⟩))(hL:bs.length+s.length<=1000000000) :
  Sv Tryz.prog 94 [.pointer (some ⟨b,0,none⟩),str s] h (RetP fun r h'=>r=.tuple ⟨[i64 (s.length:Nat),.nilIface]⟩/\∃v',Own h0 h' (ceI b [.pointer (some ⟨b,0,none⟩),v'] 162 false::slI h0 v' 5 1 (u8s (bs++s)) (bs++s).length::I)/\Ext h0 h'):=by
 refine ZFF fun hw=>?_;refine ZAJ Tryz.func94 rfl (by rw[Tryz.ntmps94];rfl) ?_;show Wc Tryz.prog ⟨94,19,none⟩ _ _ _ _ _;refine zy ?_;refine ZAb rfl rfl rfl rfl rfl Bod.h rfl rfl (ZGv hw0 he0 hO hp) ?_;rintro _ h1 ⟨hO1,he1⟩;have hg1:h1.get b=_:=hO1.p1;refine zy ?_;refine ZCl (sz:=1) (k:=s.length) (n:=bs.length) (l:=u8s s) hw0 he1 rfl rfl rfl rfl rfl Und.h inferInstance rfl rfl hO1.up2 (ZNN Und.h) (by rw[ZGI];omega) (ZNL _) (by omega) (by omega) fun v' h2 hw2 hO2 he2=>?_;have hg2:h2.get b=_:=hO2.p2;have hsh:∃a n c,v'=.slice a n c:=by
  rcases (show ZAG _ _ _ _ _ _ _ from hO2.p1) with ⟨e,_⟩|⟨b',sp,op,e,_⟩ <;> exact⟨_,_,_,e⟩
 obtain⟨a,n,c,rfl⟩:=hsh;refine zy ?_;refine ZDY rfl Tsz.h rfl rfl hg2 rfl rfl rfl fun h3 hU=>?_;obtain⟨hO3,he3⟩:=hO2.up2.putCe hw2 he2 hw0 hU;refine zy ?_;refine ZAD (ZAE rfl ⟨rfl,.slice a n c,?_,he3⟩);rw[ZNb,List.length_append];exact hO3
theorem ZGa {bs:List UInt8}(hw0:WF h0)(he0:Ext h0 h)(hO:Own h0 h (ceI b [p,v] 162 false::slI h0 v 5 1 (u8s bs) bs.length::I))(hL:bs.length<=1000000000)(hne:0<bs.length\/v=.slice none 0 0) :
  Sv Tryz.prog 96 [.pointer (some ⟨b,0,none⟩)] h (RetP fun r h'=>r=str bs/\Ext h0 h'):=by
 refine ZFF fun hw=>?_;have hg:h.get b=_:=hO.p1;refine ZAJ Tryz.func96 rfl (by rw[Tryz.ntmps96];rfl) ?_;show Wc Tryz.prog ⟨96,14,none⟩ _ _ _ _ _
 rcases (show ZAG _ _ _ _ _ _ _ from hO.p2) with ⟨rfl,hb,hn⟩|⟨b',sp,op,rfl,hgb,hlb,hb0,hsp⟩
 ·obtain rfl:bs=[]:=List.eq_nil_of_length_eq_zero hn
  refine zy ?_;refine ZBK hmix [0,1,3,7,15,0,32,96,224,480,1023,2047] [0,1,2,3,5,6,7,8,9] (some 4) [([],(some 10)),([],(some 11)),([],none)] (by kernel_rfl) (by kernel_rfl) ?_;refine z_m ?_;refine z_q ?_;refine z_f ?_;refine z_l ?_;refine z_m ?_;refine z_q ?_;refine z_f ?_;refine z_l ?_;refine z_c ?_;refine ZAr [0,1,2,3] (by kernel_rfl) rfl (ZAL rfl) rfl nb rfl (ZDf rfl rfl (ZEm rfl rfl rfl rfl rfl) ?_);refine ZAr [0,1,2,3,4,5,6,7,8,9] (by kernel_rfl) rfl (by refine t_c 9 ?_;refine t_l 8 ?_;refine t_f 7 ?_;refine t_q 6 ?_;refine t_m 5 ?_;exact ZAL rfl) rfl nb rfl (ZDf rfl rfl (ZE0 rfl rfl rfl rfl rfl rfl) ?_)
  refine ZAr [0,1,2,3,4,5,6,7,8,9,10] (by kernel_rfl) rfl (ZAL rfl) rfl nb rfl (ZDf rfl rfl (ZAu rfl) ?_);refine ZB8 (ZAL rfl) nb' ?_;refine zy ?_;exact ZAD (ZAE rfl ⟨rfl,he0⟩)
 ·have hn:0<bs.length:=by
   rcases hne with g|g
   ·exact g
   ·cases g
  obtain⟨q,hq⟩:∃q,bs.length=q+1:=⟨bs.length-1,by omega⟩;have hsd:ZB7 (.slice (some ⟨b',0,sp⟩) bs.length bs.length)=some (.pointer (some ⟨b',0,none⟩)):=by
   rw[hq]
   rcases hsp with rfl|rfl <;> rfl
  have hst:=ZN1 (P:=Tryz.prog) (t:=222) (el:=5) (op:=op) Und.h (by kernel_rfl) (by omega) hn hgb;refine zy ?_;refine ZBK hmix [0,1,3,7,15,0,32,96,224,480,1023,2047] [0,1,2,3,5,6,7,8,9] (some 4) [([],(some 10)),([],(some 11)),([],none)] (by kernel_rfl) (by kernel_rfl) ?_;refine z_m ?_;refine z_q ?_;refine z_f ?_;refine z_l ?_;refine z_m ?_;refine z_q ?_;refine z_f ?_;refine z_l ?_;refine z_c ?_;refine ZAr [0,1,2,3] (by kernel_rfl) rfl (ZAL rfl) rfl nb rfl (ZDf rfl rfl (ZEm rfl rfl rfl rfl hsd) ?_);refine ZAr [0,1,2,3,4,5,6,7,8,9] (by kernel_rfl) rfl (by refine t_c 9 ?_;refine t_l 8 ?_;refine t_f 7 ?_;refine t_q 6 ?_;refine t_m 5 ?_;exact ZAL rfl) rfl nb rfl (ZDf rfl rfl (ZE0 rfl rfl rfl rfl rfl hst) ?_)
  refine ZAr [0,1,2,3,4,5,6,7,8,9,10] (by kernel_rfl) rfl (ZAL rfl) rfl nb rfl (ZDf rfl rfl (ZAu rfl) ?_);refine ZB8 (ZAL rfl) nb' ?_;refine zy ?_;exact ZAD (ZAE rfl ⟨rfl,he0.delL (rs:=[b']) hw0 (fun x hx=>by rw[List.mem_singleton.1 hx];exact hb0)⟩)
end
section
variable {P:Program}{m:Mem}{h:Heap}{d:Option Tmp}{ty:TypeId}{pos:String}{af:Array Edge}{gu:Option (Nat×Bool)}
theorem ZNP (a b:List UInt8):(⟨⟨a⟩⟩:ByteArray)++⟨⟨b⟩⟩=⟨⟨a++b⟩⟩:=by
 apply ByteArray.ext;simp
theorem ZCd {t tz:TypeId}{x y:Operand}{a b:List UInt8}(hx:opk h m x=some (str a))(hy:opk h m y=some (str b))(hl:a.length+b.length<=1000000000):Aop P ⟨d,.binOp .add t x y tz,ty,pos,af,gu⟩ m h (str (a++b)) h :=
 ZBy hx hy rfl rfl rfl fun w=>by
  have h1:¬(((⟨⟨a⟩⟩:ByteArray).size+(⟨⟨b⟩⟩:ByteArray).size:Nat):Int) > IntKind.i64.max:=by
   have:IntKind.i64.max=9223372036854775807:=by decide
   have e1:(⟨⟨a⟩⟩:ByteArray).size=a.length:=rfl;have e2:(⟨⟨b⟩⟩:ByteArray).size=b.length:=rfl;omega
  simp[eqGuard,binOp,go_sem,Op.stringOp,h1,ZNP];omega
end
def ZCT (i:Nat)(x:Ttl):List UInt8:=Lib.itoa ((i:Int)+1)++[32]++(Lib.itoa x.a++[32])++(Lib.itoa x.b++[32])++(x.text++[10])
def ZAV:Nat->List Ttl->List UInt8
 | _,[]=>[]
 | i,x::l=>ZCT i x++ZAV (i+1) l
theorem ZBZ {n:Int}(h:I64 n):(Lib.itoa n).length<=21:=Lib.itoa_length_le n h.1 (by have:=h.2;omega)
theorem ZDL:∀(l:List Ttl)(i:Nat)(x:Ttl),ZAV i (l++[x])=ZAV i l++ZCT (i+l.length) x
 | [],i,x=>by
  show ZCT i x++[]=[]++ZCT (i+0) x
  rw[List.append_nil,List.nil_append,Nat.add_zero]
 | y::l,i,x=>by
  rw[List.cons_append,ZAV,ZAV,ZDL l (i+1) x,List.append_assoc,List.length_cons,show i+1+l.length=i+(l.length+1) by omega]
theorem ZMG (i:Nat)(x:Ttl):0<(ZCT i x).length:=by
 unfold ZCT;simp only[List.length_append,List.length_cons,List.length_nil];omega
theorem ZMI {i:Nat}{x:Ttl}(hi:i<1000)(ha:I64 x.a)(hb:I64 x.b)(ht:x.text.length<=80):(ZCT i x).length<=200:=by
 have h1:=ZBZ (n:=(i:Int)+1) ⟨by omega,by omega⟩;have h2:=ZBZ ha;have h3:=ZBZ hb;unfold ZCT;simp only[List.length_append,List.length_cons,List.length_nil];omega
def nthT (i:Nat)(x:Ttl)(j:Nat):Int:=if j=0 then (i:Int)+1 else if j=1 then x.a else x.b
def ZFR (i:Nat)(x:Ttl):Nat->List UInt8
 | 0=>[]
 | j+1=>ZFR i x j++(Lib.itoa (nthT i x j)++[32])
theorem ZM1 (i:Nat)(x:Ttl):ZCT i x=ZFR i x 3++(x.text++[10]):=by
 unfold ZCT
 show _=(([]++(Lib.itoa ((i:Int)+1)++[32]))++(Lib.itoa x.a++[32]))++(Lib.itoa x.b++[32])++(x.text++[10])
 rw[List.nil_append]
theorem ZJI {i:Nat}{x:Ttl}(hi:i<1000)(ha:I64 x.a)(hb:I64 x.b):∀j,(ZFR i x j).length<=j*22
 | 0=>Nat.zero_le _
 | j+1=>by
  have ih:=ZJI hi ha hb j
  have:(Lib.itoa (nthT i x j)).length<=21:=ZBZ (by
   unfold nthT
   split
   ·exact⟨by omega,by omega⟩
   ·split
    ·exact ha
    ·exact hb)
  rw[ZFR,List.length_append,List.length_append,List.length_cons,List.length_nil];omega
theorem ZCt:∀(l:List Ttl)(i:Nat),i+l.length<1000->(∀x∈l,I64 x.a/\I64 x.b/\x.text.length<=80)->(ZAV i l).length<=200*l.length
 | [],_,_,_=>Nat.zero_le _
 | x::l,i,hi,h=>by
  rw[List.length_cons] at hi;have ih:=ZCt l (i+1) (by omega) fun y hy=>h y (List.mem_cons_of_mem _ hy);obtain⟨h1,h2,h3⟩:=h x List.mem_cons_self;have:=ZMI (i:=i) (x:=x) (by omega) h1 h2 h3;rw[ZAV,List.length_append,List.length_cons];omega
set_option maxHeartbeats 4000000 in
theorem ZCr {l:List Ttl}{al:Option Addr}{cl:Nat}{h:Heap}(hl:ZAU 3 TtlR h al l)(hF:∀x∈l,x.Fit)(hL:Len l)(hLib:LibAt h)(hPow:PowAt h):Sv Tryz.prog 34 [.slice al l.length cl] h (RetP fun v h'=>v=.tuple ⟨[str (if ZAH l=0 then ZAV 0 l else []),i64 (ZAH l)]⟩/\Ext h h'):=by
 refine ZFF fun hw=>?_;refine ZAJ Tryz.func34 rfl (by rw[Tryz.ntmps34];rfl) ?_;show Wc Tryz.prog ⟨34,43,none⟩ _ _ _ _ _;refine zy ?_;refine ZBY rfl rfl rfl rfl rfl Bod.h rfl rfl (ZJl hl hF hL hLib) fun h1 hE1=>?_
 by_cases he:ZAH l=0
 rotate_left
 ·rw[if_neg he]
  refine zy ?_;refine ZAB rfl rfl rfl rfl (A_tt he (ZFT rfl rfl)) ?_;refine zy ?_;exact ZAD (ZAE rfl ⟨rfl,hE1⟩)
 rw[if_pos he,he];obtain⟨hl40,htl,-⟩:=ZBk he;refine zy ?_;refine ZAB rfl rfl rfl rfl (A_ff (by decide) (ZFT rfl rfl)) ?_;refine zy ?_;refine ZDI fun hw1=>?_;refine ZDZ rfl rfl Zr.h fun h2 hE2 hW2 hg2 hn2=>?_;have hb0:h.nx<=h1.nx:=hE1.2.1;have hO2:Own h h2 [ceI h1.nx [.pointer none,.slice none 0 0] 162 false,slI h (.slice none 0 0) 5 1 (u8s []) ([]:List UInt8).length]:=((Own.nil h h1).nilSl 5 1).newCe hw1 hb0 hE2 hg2 (Nat.le_refl _);replace hE1:=hE1.trans hE2;clear hg2 hn2 hW2 hE2 hw1;generalize h1.nx=b at *;clear hb0;clear h1;refine zy ?_
 refine ZBC (fun (s:Nat×Value×Value) m ds h'=>ds=[]/\s.1<=l.length/\Ext h h'/\(s.2.1=.pointer none\/s.2.1=.pointer (some ⟨b,0,none⟩))/\(0<(ZAV 0 (l.take s.1)).length\/s.2.2=.slice none 0 0) ∧
   Own h h' [ceI b [s.2.1,s.2.2] 162 false,slI h s.2.2 5 1 (u8s (ZAV 0 (l.take s.1))) (ZAV 0 (l.take s.1)).length]/\AllK m [(5,.pointer (some ⟨b,0,none⟩)),(15,.slice al l.length cl),(16,i64 l.length),(17,i64 (s.1:Nat))]) (fun s=>l.length-s.1) (0,.pointer none,.slice none 0 0) ?_ ?_
 ·exact⟨rfl,Nat.zero_le _,hE1,.inl rfl,.inr rfl,hO2,rfl,rfl,rfl,rfl,trivial⟩
 clear hO2 hE1;clear h2;rintro⟨k,p,v⟩ m ds h3 ⟨rfl,hk,hE3,hp,hne,hO3,hall⟩;simp only at hk hp hne hO3 hall;refine Wc.le ?_ (Le.kn hall);clear hall
 have hWl:=ZCt (l.take k) 0 (by rw[List.length_take];omega) (fun x hx=>by
  have hx':=List.mem_of_mem_take hx;exact⟨(hF x hx').a,(hF x hx').b,(ZCw (htl x hx').2.2.2).2⟩)
 rw[List.length_take] at hWl;have hWl2:(ZAV 0 (l.take k)).length<=8000:=by
  have:200*min k l.length<=200*40:=Nat.mul_le_mul_left _ (by omega);omega
 clear hWl;refine zy ?_;refine ZAl rfl rfl rfl rfl (ZCF rfl rfl) (fun hlt=>?_) (fun hlt=>?_);rotate_left
 ·have hk2:k=l.length:=by omega
  subst hk2;rw[List.take_length] at hO3 hne hWl2;refine zy ?_;refine ZAb rfl rfl rfl rfl rfl Bod.h rfl rfl (ZGa hw hE3 hO3 (by omega) hne) ?_;rintro _ h4 ⟨rfl,hE4⟩;refine zy ?_;exact ZAD (ZAE rfl ⟨rfl,hE4⟩)
 have hk':k<l.length:=by omega
 have hF':=hF _ (List.getElem_mem hk');have hx:=htl _ (List.getElem_mem hk');have hsn:ZAV 0 (l.take (k+1))=ZAV 0 (l.take k)++ZCT k l[k]:=by
  rw[List.take_succ_eq_append_getElem hk',ZDL,List.length_take,Nat.min_eq_left (by omega),Nat.zero_add]
 have hlp:=ZMG k l[k];rw[ZM1] at hsn hlp;obtain⟨bl,ol,oal,rfl,row,hrow,hr⟩:=hl k hk';generalize l[k]=x at *;generalize ZAV 0 (l.take k)=W at *;obtain rfl:=hr;have ht80:=(ZCw hx.2.2.2).2;replace hrow:=hE3.row hrow;refine zy ?_;refine ZAB rfl rfl rfl rfl (A_ix Und.h Tsz.h rfl rfl) ?_;refine zy ?_;refine ZDI fun hw3=>?_;refine ZDZ rfl rfl Zr.h fun h4 hE4 hW4 hg4 hn4=>?_;have hO4:=hO3.newCe hw3 hE3.2.1 hE4 hg4 (Nat.le_refl _);have hE04:=hE3.trans hE4;generalize h3.nx=b7 at *;refine zy ?_;refine ZDY rfl Tsz.h rfl rfl hg4 rfl rfl rfl fun h5 hU5=>?_;obtain⟨hO5,hE5⟩:=hO4.putCe hW4 hE04 hw hU5;replace hO5:=hO5.dn3
 have hg7:h5.get b7=_:=hO5.p3;clear hO4 hO3 hE04 hU5 hg4 hn4 hW4 hE4 hw3 hrow hE3;clear h4 h3;have hbuild:ZFk Tryz.prog 163 [(0,i64 ((k:Int)+1)),(1,i64 x.a),(2,i64 x.b)]=some (.agg ⟨[i64 ((k:Int)+1),i64 x.a,i64 x.b]⟩):=by kernel_rfl
 refine zy ?_;refine ZAB rfl rfl rfl rfl (ZLq rfl hbuild) ?_;refine zy ?_
 refine ZBC (fun (s:Nat×Value×Value) m ds h'=>ds=[]/\s.1<=3/\Ext h h'/\(s.2.1=.pointer none\/s.2.1=.pointer (some ⟨b,0,none⟩)) ∧
   Own h h' [ceI b [s.2.1,s.2.2] 162 false,slI h s.2.2 5 1 (u8s (W++ZFR k x s.1)) (W++ZFR k x s.1).length,ceI b7 [i64 x.a,i64 x.b,str x.text] 75 false]/\AllK m [(5,.pointer (some ⟨b,0,none⟩)),(7,.pointer (some ⟨b7,0,none⟩)),(15,.slice (some ⟨bl,ol,oal⟩) l.length cl),(16,i64 l.length),(17,i64 (k:Nat)),(28,.agg ⟨[i64 ((k:Int)+1),i64 x.a,i64 x.b]⟩),(29,i64 (s.1:Nat))]) (fun s=>3-s.1) (0,p,v) ?_ ?_
 ·exact⟨rfl,Nat.zero_le _,hE5,hp,(by show Own h h5 [_,slI h v _ 1 (u8s (W++[])) (W++[]).length,_];rw[List.append_nil];exact hO5),rfl,rfl,rfl,rfl,rfl,rfl,rfl,trivial⟩
 clear hO5 hg7 hE5 hp hne;clear h5;rintro⟨j,p1,v1⟩ m ds h6 ⟨rfl,hj,hE6,hp1,hO6,hall⟩;simp only at hj hp1 hO6 hall;refine Wc.le ?_ (Le.kn hall);clear hall;have hnl:=ZJI (i:=k) (x:=x) (by omega) hF'.a hF'.b j;have hnl2:(W++ZFR k x j).length<=8100:=by
  rw[List.length_append];have:j*22<=3*22:=Nat.mul_le_mul_right _ hj;omega
 refine zy ?_
 by_cases hj3:j<3
 ·refine ZAB rfl rfl rfl rfl (A_tt (by omega) (ZCF rfl rfl)) ?_
  have hidx:ZEf Tryz.prog 163 (.agg ⟨[i64 ((k:Int)+1),i64 x.a,i64 x.b]⟩) (i64 (j:Nat))=some (i64 (nthT k x j)):=by
   obtain rfl|rfl|rfl:j=0\/j=1\/j=2:=by omega
   all_goals kernel_rfl
  have hI:I64 (nthT k x j):=by
   unfold nthT
   split
   ·exact⟨by omega,by omega⟩
   ·split
    ·exact hF'.a
    ·exact hF'.b
  have hil:=ZBZ hI;refine zy ?_;refine ZAB rfl rfl rfl rfl (ZNM rfl rfl hidx) ?_;refine zy ?_;refine ZAP rfl rfl rfl rfl rfl Bod.h rfl rfl (ZNd hI (hPow.ext hE6)) ?_;refine zy ?_;refine ZAB rfl rfl rfl rfl (ZCd rfl rfl (by show (Lib.itoa (nthT k x j)).length+1<=_;omega)) ?_;refine zy ?_;refine ZAb rfl rfl rfl rfl rfl Bod.h rfl rfl (ZC7 hw hE6 hO6 hp1 (by simp only[List.length_append,List.length_cons,List.length_nil] at hnl2 ⊢;omega)) ?_;rintro _ h7 ⟨rfl,v',hO7,hE7⟩;refine zy ?_;exact⟨(j+1,.pointer (some ⟨b,0,none⟩),v'),(by show 3-(j+1)<3-j;omega),rfl,hj3,hE7,.inr rfl,(by show Own h h7 [_,slI h v' _ 1 (u8s (W++(ZFR k x j++(Lib.itoa (nthT k x j)++[32])))) (W++(ZFR k x j++(Lib.itoa (nthT k x j)++[32]))).length,_];rw[<-List.append_assoc];exact hO7),rfl,rfl,rfl,rfl,rfl,rfl,rfl,trivial⟩
 have hj3':j=3:=by omega
 subst hj3';refine ZAB rfl rfl rfl rfl (A_ff (by omega) (ZCF rfl rfl)) ?_;have hg7:h6.get b7=_:=hO6.p3;refine zy ?_;refine ZAB rfl rfl rfl rfl (ZCd rfl rfl (by show x.text.length+1<=_;omega)) ?_;refine zy ?_;refine ZAb rfl rfl rfl rfl rfl Bod.h rfl rfl (ZC7 hw hE6 hO6 hp1 (by simp only[List.length_append,List.length_cons,List.length_nil] at hnl2 ⊢;omega)) ?_;rintro _ h7 ⟨rfl,v',hO7,hE7⟩;have hO8:=hO7.sub (l':=[ceI b [.pointer (some ⟨b,0,none⟩),v'] 162 false,slI h v' 5 1 (u8s (W++ZFR k x 3++(x.text++[10]))) (W++ZFR k x 3++(x.text++[10])).length]) (.cons_cons _ (.cons_cons _ (.cons _ .slnil)));rw[List.append_assoc,<-hsn] at hO8
 refine zy ?_;exact⟨(k+1,.pointer (some ⟨b,0,none⟩),v'),(by show l.length-(k+1)<l.length-k;omega),rfl,hk',hE7,.inr rfl,.inl (by rw[hsn,List.length_append];omega),hO8,rfl,rfl,rfl,rfl,trivial⟩
theorem ZLE {n:Int}(h:0<=n/\n<256):IntKind.u8.wrap n=n:=by
 unfold IntKind.wrap;simp[IntKind.bits,IntKind.signed];omega
theorem ZJ5 {r:Nat}(h:r<10):u8s [UInt8.ofNat (48+r)]=[.int .u8 (48+(r:Int))]:=by
 unfold u8s;rw[List.map_cons,List.map_nil,UInt8.toNat_ofNat',show (48+r) % 2 ^ 8=48+r by omega]
 rfl
theorem ZKo:∀(u:Nat),u<1000000000000000000->∀(h:Heap),Sv Tryz.prog 161 [i64 (u:Nat)] h (RetP fun v h'=>v=str (Lib.decDigits u)/\Ext h h'):=by
 intro u
 induction u using Nat.strongRecOn with
 | _ u ih =>
 intro hu h;have hrem:((u:Nat):Int).tmod 10=((u % 10:Nat):Int):=by rw[Int.tmod_eq_emod_of_nonneg (by omega)];omega
 have hquo:((u:Nat):Int).tdiv 10=((u / 10:Nat):Int):=by rw[Int.tdiv_eq_ediv_of_nonneg (by omega)];omega
 have hr:u % 10<10:=Nat.mod_lt _ (by decide);have hcell:=ZJ5 hr;refine ZAJ Tryz.func161 rfl (by rw[Tryz.ntmps161];rfl) ?_;show Wc Tryz.prog ⟨161,18,none⟩ _ _ _ _ _;refine zy ?_;refine ZAB rfl rfl rfl rfl (ZOo rfl rfl (by decide)) ?_;rw[hrem];refine zy ?_;refine ZAB rfl rfl rfl rfl (ZIK ⟨_,Und.h⟩ Und.h rfl (ZLE (by omega))) ?_;refine zy ?_;refine ZL4 rfl rfl Und.h Tsz.h Zr.h rfl rfl rfl rfl rfl fun h2 hE2 hW2 hg2 hn2=>?_;refine zy ?_;refine ZAB rfl rfl rfl rfl (ZLF (l:=[UInt8.ofNat (48+u % 10)]) Und.h Und.h Und.h rfl (by rw[hcell];exact hg2)) ?_;refine zy ?_
 by_cases h10:u<10
 ·refine ZAB rfl rfl rfl rfl (A_ff (by omega) (ZFa rfl rfl)) ?_
  refine zy ?_;refine ZAD (ZAE rfl ⟨?_,hE2⟩);rw[Lib.decDigits,dif_pos h10,Nat.mod_eq_of_lt h10]
  rfl
 ·refine ZAB rfl rfl rfl rfl (A_tt (by omega) (ZFa rfl rfl)) ?_
  refine zy ?_;refine ZAB rfl rfl rfl rfl (ZOb rfl rfl (by decide) hquo (by omega) (by omega)) ?_;refine zy ?_;refine ZBY rfl rfl rfl rfl rfl Bod.h rfl rfl (ih (u / 10) (by omega) (by omega) _) fun h3 hE3=>?_;have hl:=ZBZ (n:=((u / 10:Nat):Int)) ⟨by omega,by omega⟩;unfold Lib.itoa at hl;rw[if_neg (by omega),Int.toNat_natCast] at hl;refine zy ?_;refine ZAB rfl rfl rfl rfl (ZCd rfl rfl (by show (Lib.decDigits (u / 10)).length+1<=_;omega)) ?_;refine zy ?_;refine ZAD (ZAE rfl ⟨?_,hE2.trans hE3⟩);have hd:Lib.decDigits u=Lib.decDigits (u / 10)++[UInt8.ofNat (48+u % 10)]:=by
   conv=>lhs;rw[Lib.decDigits,dif_neg h10]
  rw[hd]
  rfl
theorem ZDu {n:Int}(h0:0<=n/\n<1000000000)(h:Heap):Sv Tryz.prog 161 [i64 n] h (RetP fun v h'=>v=str (Lib.itoa n)/\Ext h h'):=by
 obtain⟨u,rfl⟩:∃u:Nat,n=u:=⟨n.toNat,by omega⟩;have e:Lib.itoa (u:Nat)=Lib.decDigits u:=by
  unfold Lib.itoa;rw[if_neg (by omega),Int.toNat_natCast]
 rw[e];exact ZKo u (by omega) h
set_option maxHeartbeats 4000000 in
theorem ZFu {l:List Ttl}{al:Option Addr}{cl:Nat}{h:Heap}(hl:ZAU 3 TtlR h al l)(he:ZAH l=0):Sv Tryz.prog 119 [.slice al l.length cl] h (RetP fun v h'=>v=str (ZAV 0 l)/\Ext h h'):=by
 obtain⟨hl40,htl,-⟩:=ZBk he;refine ZAJ Tryz.func119 rfl (by rw[Tryz.ntmps119];rfl) ?_;show Wc Tryz.prog ⟨119,41,none⟩ _ _ _ _ _;refine zy ?_;refine ZBC (fun (k:Nat) m ds h'=>ds=[]/\k<=l.length/\Ext h h'/\AllK m [(0,.slice al l.length cl),(3,str (ZAV 0 (l.take k))),(4,i64 (k:Nat))]) (fun k=>l.length-k) 0 ?_ ?_
 ·exact⟨rfl,Nat.zero_le _,Ext.refl _,rfl,rfl,rfl,trivial⟩
 rintro k m ds h3 ⟨rfl,hk,hE,hall⟩;refine Wc.le ?_ (Le.kn hall);clear hall
 have hWl:=ZCt (l.take k) 0 (by rw[List.length_take];omega) (fun x hx=>by
  have hx':=htl x (List.mem_of_mem_take hx);exact⟨⟨by omega,by omega⟩,⟨by omega,by omega⟩,(ZCw hx'.2.2.2).2⟩)
 rw[List.length_take] at hWl;have hWl2:(ZAV 0 (l.take k)).length<=8000:=by
  have:200*min k l.length<=200*40:=Nat.mul_le_mul_left _ (by omega);omega
 clear hWl;refine zy ?_;refine ZAl rfl rfl rfl rfl (ZCF rfl rfl) (fun hlt=>?_) (fun hlt=>?_);rotate_left
 ·have hk2:k=l.length:=by omega
  subst hk2;rw[List.take_length];refine zy ?_;exact ZAD (ZAE rfl ⟨rfl,hE⟩)
 have hk':k<l.length:=by omega
 have hx:=htl _ (List.getElem_mem hk');have hsn:ZAV 0 (l.take (k+1))=ZAV 0 (l.take k)++ZCT k l[k]:=by
  rw[List.take_succ_eq_append_getElem hk',ZDL,List.length_take,Nat.min_eq_left (by omega),Nat.zero_add]
 obtain⟨bl,ol,oal,rfl,row,hrow,hr⟩:=hl k hk';generalize l[k]=x at *;generalize ZAV 0 (l.take k)=W at *;obtain rfl:=hr;have ht80:=(ZCw hx.2.2.2).2;have i1:=ZBZ (n:=(k:Int)+1) ⟨by omega,by omega⟩;have i2:=ZBZ (n:=x.a) ⟨by omega,by omega⟩;have i3:=ZBZ (n:=x.b) ⟨by omega,by omega⟩;replace hrow:=hE.row hrow;have z0:ZAX h3 bl (ol+k*3+0)=some (i64 x.a):=ZAw hrow rfl;have z1:ZAX h3 bl (ol+k*3+1)=some (i64 x.b):=ZAw hrow rfl;have z2:ZAX h3 bl (ol+k*3+2)=some (str x.text):=ZAw hrow rfl;refine zy ?_;refine ZBK hmix [0,0,2,6,15,31,0,0,192,448,960,1998,4095,8191,0,0,49152,114688,245760,511950,1048575,2097151,0,0,12582912,29360128,62914560,134217727,268435455,536870911] [0,1,2,6,7,8,9,10,14,15,16,17,18,22,23,24,25,26] (some 3) [([4,5],(some 11)),([12,13],(some 19)),([20,21,27,28],(some 29)),([],none)] (by kernel_rfl) (by kernel_rfl) ?_
 refine z_m ?_;refine z_m ?_;refine z_y ?_;refine z_m ?_;refine z_m ?_;refine ZAF rfl rfl rfl rfl rfl (fun _=>ZAQ (k:=k) Und.h Tsz.h rfl rfl rfl hk') ?_;refine z_f ?_;refine z_l ?_;refine z_m ?_;refine z_m ?_;refine ZAF rfl rfl rfl rfl rfl (fun _=>ZAQ (k:=k) Und.h Tsz.h rfl rfl rfl hk') ?_;refine z_f ?_;refine z_l ?_;refine z_m ?_;refine z_m ?_;refine ZAF rfl rfl rfl rfl rfl (fun _=>ZAQ (k:=k) Und.h Tsz.h rfl rfl rfl hk') ?_;refine z_f ?_;refine z_l ?_;refine ZAr [1,2] (by kernel_rfl) rfl (ZAL rfl) rfl nb rfl (ZGW rfl rfl rfl rfl rfl Bod.h (ZDu (n:=(k:Int)+1) (by omega) _) (fun h4 hE4=>?_));replace z0:=hE4.cell z0
 replace z1:=hE4.cell z1;replace z2:=hE4.cell z2;refine ZAF rfl rfl rfl rfl rfl (fun _=>ZCd rfl rfl (by first|omega|(simp only[List.length_append,List.length_cons,List.length_nil];omega))) ?_;refine ZAF rfl rfl rfl rfl rfl (fun _=>ZCd rfl rfl (by first|omega|(simp only[List.length_append,List.length_cons,List.length_nil];omega))) ?_;refine ZAr [1,2,3,6,7,8,9,10] (by kernel_rfl) rfl (by refine t_l 26 ?_;refine t_f 25 ?_;refine ZAN (i:=24) rfl rfl rfl rfl rfl (fun _=>ZAQ (k:=k) Und.h Tsz.h rfl rfl rfl hk') rfl ?_;refine t_m 23 ?_;refine t_m 22 ?_;refine t_l 18 ?_;refine t_f 17 ?_;refine ZAN (i:=16) rfl rfl rfl rfl rfl (fun _=>ZAQ (k:=k) Und.h Tsz.h rfl rfl rfl hk') rfl ?_;refine t_m 15 ?_;refine t_m 14 ?_;refine t_l 10 ?_;refine t_f 9 ?_;refine ZAN (i:=8) rfl rfl rfl rfl rfl (fun _=>ZAQ (k:=k) Und.h Tsz.h rfl rfl rfl hk') rfl ?_;refine t_m 7 ?_;refine t_m 6 ?_;refine t_m 0 ?_;exact ZAL rfl) rfl nb rfl (ZGW rfl rfl rfl rfl rfl Bod.h (ZDu (n:=x.a) (by omega) _) (fun h5 hE5=>?_))
 replace z1:=hE5.cell z1;replace z2:=hE5.cell z2;refine ZAF rfl rfl rfl rfl rfl (fun _=>ZCd rfl rfl (by first|omega|(simp only[List.length_append,List.length_cons,List.length_nil];omega))) ?_;refine ZAF rfl rfl rfl rfl rfl (fun _=>ZCd rfl rfl (by first|omega|(simp only[List.length_append,List.length_cons,List.length_nil];omega))) ?_;refine ZAr [1,2,3,6,7,8,9,10,11,14,15,16,17,18] (by kernel_rfl) rfl (by refine ZAN (i:=5) rfl rfl rfl rfl rfl (fun _=>ZCd rfl rfl (by first|omega|(simp only[List.length_append,List.length_cons,List.length_nil];omega))) rfl ?_;refine ZAN (i:=4) rfl rfl rfl rfl rfl (fun _=>ZCd rfl rfl (by first|omega|(simp only[List.length_append,List.length_cons,List.length_nil];omega))) rfl ?_;refine t_l 26 ?_;refine t_f 25 ?_;refine ZAN (i:=24) rfl rfl rfl rfl rfl (fun _=>ZAQ (k:=k) Und.h Tsz.h rfl rfl rfl hk') rfl ?_;refine t_m 23 ?_;refine t_m 22 ?_;refine t_l 18 ?_;refine t_f 17 ?_;refine ZAN (i:=16) rfl rfl rfl rfl rfl (fun _=>ZAQ (k:=k) Und.h Tsz.h rfl rfl rfl hk') rfl ?_;refine t_m 15 ?_;refine t_m 14 ?_;refine t_m 0 ?_;exact ZAL rfl) rfl nb rfl (ZGW rfl rfl rfl rfl rfl Bod.h (ZDu (n:=x.b) (by omega) _) (fun h6 hE6=>?_))
 replace z2:=hE6.cell z2;refine ZAF rfl rfl rfl rfl rfl (fun _=>ZCd rfl rfl (by first|omega|(simp only[List.length_append,List.length_cons,List.length_nil];omega))) ?_;refine ZAF rfl rfl rfl rfl rfl (fun _=>ZCd rfl rfl (by first|omega|(simp only[List.length_append,List.length_cons,List.length_nil];omega))) ?_;refine ZAF rfl rfl rfl rfl rfl (fun _=>ZCd rfl rfl (by first|omega|(simp only[List.length_append,List.length_cons,List.length_nil];omega))) ?_;refine ZAF rfl rfl rfl rfl rfl (fun _=>ZCd rfl rfl (by first|omega|(simp only[List.length_append,List.length_cons,List.length_nil];omega))) ?_;refine ZAr [0,1,2,3,4,5,6,7,8,9,10,11,12,13,14,15,16,17,18,19,20,21,22,23,24,25,26,27,28] (by kernel_rfl) rfl (by refine ZAN (i:=13) rfl rfl rfl rfl rfl (fun _=>ZCd rfl rfl (by first|omega|(simp only[List.length_append,List.length_cons,List.length_nil];omega))) rfl ?_;refine ZAN (i:=12) rfl rfl rfl rfl rfl (fun _=>ZCd rfl rfl (by first|omega|(simp only[List.length_append,List.length_cons,List.length_nil];omega))) rfl ?_;refine ZAN (i:=5) rfl rfl rfl rfl rfl (fun _=>ZCd rfl rfl (by first|omega|(simp only[List.length_append,List.length_cons,List.length_nil];omega))) rfl ?_;refine ZAN (i:=4) rfl rfl rfl rfl rfl (fun _=>ZCd rfl rfl (by first|omega|(simp only[List.length_append,List.length_cons,List.length_nil];omega))) rfl ?_;refine t_l 26 ?_;refine t_f 25 ?_;refine ZAN (i:=24) rfl rfl rfl rfl rfl (fun _=>ZAQ (k:=k) Und.h Tsz.h rfl rfl rfl hk') rfl ?_;refine t_m 23 ?_;refine t_m 22 ?_;refine t_m 0 ?_;exact ZAL rfl) rfl nb rfl (ZDf rfl rfl (ZAu rfl) ?_)
 refine ZB8 (ZAL rfl) nb' ?_;refine zy ?_;refine⟨k+1,(by show l.length-(k+1)<l.length-k;omega),rfl,hk',((hE.trans hE4).trans hE5).trans hE6,rfl,?_,rfl,trivial⟩;have hfin:ZAV 0 (((l:List Ttl)).take (k+1))=W++Lib.itoa ((k:Int)+1)++[32]++Lib.itoa x.a++[32]++Lib.itoa x.b++[32]++x.text++[10]:=by
  rw[hsn];unfold ZCT;simp only[List.append_assoc]
 rw[hfin]
 rfl
theorem ZH6 {l:List Ttl}{al:Option Addr}{cl:Nat}{h:Heap}(hl:ZAU 3 TtlR h al l)(hF:∀x∈l,x.Fit)(hL:Len l):Sv Tryz.prog 52 [.slice al l.length cl] h (RetP fun v h'=>v=.tuple ⟨[str (if ZAH l=0 then ZAV 0 l else []),i64 (ZAH l)]⟩/\Ext h h'):=by
 refine ZAJ Tryz.func52 rfl (by rw[Tryz.ntmps52];rfl) ?_;show Wc Tryz.prog ⟨52,12,none⟩ _ _ _ _ _;refine zy ?_;refine ZAP rfl rfl rfl rfl rfl Bod.h rfl rfl (ZEH hl hF hL) ?_
 by_cases he:ZAH l=0
 rotate_left
 ·rw[if_neg he]
  refine zy ?_;refine ZAB rfl rfl rfl rfl (A_tt he (ZFT rfl rfl)) ?_;refine zy ?_;exact ZAD (ZAE rfl ⟨rfl,Ext.refl _⟩)
 rw[if_pos he,he];refine zy ?_;refine ZAB rfl rfl rfl rfl (A_ff (by decide) (ZFT rfl rfl)) ?_;refine zy ?_;refine ZBY rfl rfl rfl rfl rfl Bod.h rfl rfl (ZFu hl he) fun h2 hE2=>?_;refine zy ?_;exact ZAD (ZAE rfl ⟨rfl,hE2⟩)
end Go.Dw
