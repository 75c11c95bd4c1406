/- V1: contracts: strings.Builder, of a builder of the caller's own. -/
import Derived.Lib.ItoaLen
import Derived.Test.YtfgeelpahicelaaGreatDoorVG2
import Derived.Test.YtfgeelpahicelaaGreatDoorVG13
import Derived.Test.YtfgeelpahicelaaGreatDoorVG9
import Derived.Test.YtfgeelpahicelaaGreatDoorVG15
set_option linter.unusedVariables false
set_option linter.unusedSimpArgs false
namespace Go.Dw
open Go Go.Dx Go.Proofs
set_option maxRecDepth 100000
section
variable {h0 h:Heap}{b:Nat}{p v:Value}{I:List It}
theorem copyCheck_sv (hw0:WF h0)(he0:Ext h0 h)(hO:Own h0 h (ceI b [p,v] 162 false::I))(hp:p=.pointer none\/p=.pointer (some ⟨b,0,none⟩)):Sv Tryz.prog 152 [.pointer (some ⟨b,0,none⟩)] h (RetP fun _ h'=>Own h0 h' (ceI b [.pointer (some ⟨b,0,none⟩),v] 162 false::I)/\Ext h0 h'):=by
 refine Sv_wf fun hw=>?_
 have hg:h.get b=_:=hO.p1
 refine Sv_enter Tryz.func152 rfl (by rw[Tryz.ntmps152];rfl) ?_;show Wc Tryz.prog ⟨152,20,none⟩ _ _ _ _ _
 refine zy ?_
 rcases hp with rfl|rfl
 ·refine Wo_do rfl rfl rfl rfl (A_eqlNils Und.h rfl rfl) ?_
  refine zy ?_
  refine Wo_do rfl rfl rfl rfl (A_toU (k:=1) rfl Und.h Tryz.underlying247 hg Tsz.h rfl) ?_
  refine zy ?_
  refine Wo_opn rfl (by intro c' e;cases e) rfl rfl (A_noEsc (fn:=Tryz.prog.funcs[(185:Nat)]!) (by kernel_rfl) (by kernel_rfl) rfl) ?_
  refine zy ?_
  refine Wo_do rfl rfl rfl rfl (A_fromU (i:=(Tryz.prog.info? 162).getD default) rfl Tryz.underlying247 Und.h hg (by kernel_rfl) (by kernel_rfl)) ?_
  refine zy ?_
  refine Wo_store rfl Tsz.h rfl rfl hg rfl rfl rfl fun h1 hU=>?_
  refine zy ?_
  exact Lv_normal rfl ((hO.putCe hw he0 hw0 hU).imp id id)
 ·refine Wo_do rfl rfl rfl rfl (A_binNil rfl rfl rfl (by intro n e;cases e)) ?_
  refine zy ?_
  refine Wo_do rfl rfl rfl rfl (A_binPtr rfl rfl (by kernel_rfl) (ptr_same (j:=(Tryz.prog.info? 162).getD default) Und.h (by kernel_rfl)) (by intro n e;cases e)) ?_
  refine zy ?_
  exact Lv_normal rfl ⟨hO,he0⟩
theorem writeString_sv {bs s:List UInt8}(hw0:WF h0)(he0:Ext h0 h)(hO:Own h0 h (ceI b [p,v] 162 false::slI h0 v 5 1 (u8s bs) bs.length::I))(hp:p=.pointer none\/p=.pointer (some ⟨b,0,none⟩))(hL:bs.length+s.length<=1000000000) :
  Sv Tryz.prog 94 [.pointer (some ⟨b,0,none⟩),str s] h (RetP fun r h'=>r=.tuple ⟨[i64 (s.length:Nat),.nilIface]⟩/\∃v',Own h0 h' (ceI b [.pointer (some ⟨b,0,none⟩),v'] 162 false::slI h0 v' 5 1 (u8s (bs++s)) (bs++s).length::I)/\Ext h0 h'):=by
 refine Sv_wf fun hw=>?_
 refine Sv_enter Tryz.func94 rfl (by rw[Tryz.ntmps94];rfl) ?_;show Wc Tryz.prog ⟨94,19,none⟩ _ _ _ _ _
 refine zy ?_
 refine Wo_callr rfl rfl rfl rfl rfl Bod.h rfl rfl (copyCheck_sv hw0 he0 hO hp) ?_
 rintro _ h1 ⟨hO1,he1⟩
 have hg1:h1.get b=_:=hO1.p1
 refine zy ?_
 refine Wo_appendO (sz:=1) (k:=s.length) (n:=bs.length) (l:=u8s s) hw0 he1 rfl rfl rfl rfl rfl Und.h inferInstance rfl rfl hO1.up2 (str_src Und.h) (by rw[u8s_len];omega) (u8s_one _) (by omega) (by omega) fun v' h2 hw2 hO2 he2=>?_
 have hg2:h2.get b=_:=hO2.p2
 have hsh:∃a n c,v'=.slice a n c:=by
  rcases (show FreshSl _ _ _ _ _ _ _ from hO2.p1) with ⟨e,_⟩|⟨b',sp,op,e,_⟩ <;> exact⟨_,_,_,e⟩
 obtain⟨a,n,c,rfl⟩:=hsh
 refine zy ?_
 refine Wo_store rfl Tsz.h rfl rfl hg2 rfl rfl rfl fun h3 hU=>?_
 obtain⟨hO3,he3⟩:=hO2.up2.putCe hw2 he2 hw0 hU
 refine zy ?_
 refine Wc_ret (Lv_ret rfl ⟨rfl,.slice a n c,?_,he3⟩)
 rw[u8s_app,List.length_append]
 exact hO3
theorem builderStr_sv {bs:List UInt8}(hw0:WF h0)(he0:Ext h0 h)(hO:Own h0 h (ceI b [p,v] 162 false::slI h0 v 5 1 (u8s bs) bs.length::I))(hL:bs.length<=1000000000)(hne:0<bs.length\/v=.slice none 0 0) :
  Sv Tryz.prog 96 [.pointer (some ⟨b,0,none⟩)] h (RetP fun r h'=>r=str bs/\Ext h0 h'):=by
 refine Sv_wf fun hw=>?_
 have hg:h.get b=_:=hO.p1
 refine Sv_enter Tryz.func96 rfl (by rw[Tryz.ntmps96];rfl) ?_;show Wc Tryz.prog ⟨96,14,none⟩ _ _ _ _ _
 rcases (show FreshSl _ _ _ _ _ _ _ from hO.p2) with ⟨rfl,hb,hn⟩|⟨b',sp,op,rfl,hgb,hlb,hb0,hsp⟩
 ·obtain rfl:bs=[]:=List.eq_nil_of_length_eq_zero hn
  refine zy ?_
  refine Wc_draw hmix [0,1,3,7,15,0,32,96,224,480,1023,2047] [0,1,2,3,5,6,7,8,9] (some 4) [([],(some 10)),([],(some 11)),([],none)] (by kernel_rfl) (by kernel_rfl) ?_
  refine z_m ?_;refine z_q ?_;refine z_f ?_;refine z_l ?_;refine z_m ?_;refine z_q ?_;refine z_f ?_;refine z_l ?_;refine z_c ?_
  refine Wp_eff [0,1,2,3] (by kernel_rfl) rfl (Stl_nil rfl) rfl nb rfl (W1_op rfl rfl (A_sliceData rfl rfl rfl rfl rfl) ?_)
  refine Wp_eff [0,1,2,3,4,5,6,7,8,9] (by kernel_rfl) rfl (by refine t_c 9 ?_;refine t_l 8 ?_;refine t_f 7 ?_;refine t_q 6 ?_;refine t_m 5 ?_;exact Stl_nil rfl) rfl nb rfl (W1_op rfl rfl (A_unsafeStr rfl rfl rfl rfl rfl rfl) ?_)
  refine Wp_eff [0,1,2,3,4,5,6,7,8,9,10] (by kernel_rfl) rfl (Stl_nil rfl) rfl nb rfl (W1_op rfl rfl (A_assign rfl) ?_)
  refine Wp_end (Stl_nil rfl) nb' ?_
  refine zy ?_
  exact Wc_ret (Lv_ret rfl ⟨rfl,he0⟩)
 ·have hn:0<bs.length:=by
   rcases hne with g|g
   ·exact g
   ·cases g
  obtain⟨q,hq⟩:∃q,bs.length=q+1:=⟨bs.length-1,by omega⟩
  have hsd:asliceData (.slice (some ⟨b',0,sp⟩) bs.length bs.length)=some (.pointer (some ⟨b',0,none⟩)):=by
   rw[hq]
   rcases hsp with rfl|rfl <;> rfl
  have hst:=str_of (P:=Tryz.prog) (t:=222) (el:=5) (op:=op) Und.h (by kernel_rfl) (by omega) hn hgb
  refine zy ?_
  refine Wc_draw hmix [0,1,3,7,15,0,32,96,224,480,1023,2047] [0,1,2,3,5,6,7,8,9] (some 4) [([],(some 10)),([],(some 11)),([],none)] (by kernel_rfl) (by kernel_rfl) ?_
  refine z_m ?_;refine z_q ?_;refine z_f ?_;refine z_l ?_;refine z_m ?_;refine z_q ?_;refine z_f ?_;refine z_l ?_;refine z_c ?_
  refine Wp_eff [0,1,2,3] (by kernel_rfl) rfl (Stl_nil rfl) rfl nb rfl (W1_op rfl rfl (A_sliceData rfl rfl rfl rfl hsd) ?_)
  refine Wp_eff [0,1,2,3,4,5,6,7,8,9] (by kernel_rfl) rfl (by refine t_c 9 ?_;refine t_l 8 ?_;refine t_f 7 ?_;refine t_q 6 ?_;refine t_m 5 ?_;exact Stl_nil rfl) rfl nb rfl (W1_op rfl rfl (A_unsafeStr rfl rfl rfl rfl rfl hst) ?_)
  refine Wp_eff [0,1,2,3,4,5,6,7,8,9,10] (by kernel_rfl) rfl (Stl_nil rfl) rfl nb rfl (W1_op rfl rfl (A_assign rfl) ?_)
  refine Wp_end (Stl_nil rfl) nb' ?_
  refine zy ?_
  exact Wc_ret (Lv_ret rfl ⟨rfl,he0.delL (rs:=[b']) hw0 (fun x hx=>by rw[List.mem_singleton.1 hx];exact hb0)⟩)
end
end Go.Dw
/- V2: contracts: what Write writes. -/
namespace Go.Dw
open Go Go.Dx Go.Proofs
set_option maxRecDepth 100000
section
variable {P:Program}{m:Mem}{h:Heap}{d:Option Tmp}{ty:TypeId}{pos:String}{af:Array Edge}{gu:Option (Nat×Bool)}
theorem str_app (a b:List UInt8):(⟨⟨a⟩⟩:ByteArray)++⟨⟨b⟩⟩=⟨⟨a++b⟩⟩:=by
 apply ByteArray.ext
 simp
theorem A_cat {t tz:TypeId}{x y:Operand}{a b:List UInt8}(hx:opk h m x=some (str a))(hy:opk h m y=some (str b))(hl:a.length+b.length<=1000000000):Aop P ⟨d,.binOp .add t x y tz,ty,pos,af,gu⟩ m h (str (a++b)) h :=
 A_bin hx hy rfl rfl rfl fun w=>by
  have h1:¬(((⟨⟨a⟩⟩:ByteArray).size+(⟨⟨b⟩⟩:ByteArray).size:Nat):Int) > IntKind.i64.max:=by
   have:IntKind.i64.max=9223372036854775807:=by decide
   have e1:(⟨⟨a⟩⟩:ByteArray).size=a.length:=rfl
   have e2:(⟨⟨b⟩⟩:ByteArray).size=b.length:=rfl
   omega
  simp[eqGuard,binOp,go_sem,Op.stringOp,h1,str_app]
  omega
end
def lineS (i:Nat)(x:Ttl):List UInt8:=Lib.itoa ((i:Int)+1)++[32]++(Lib.itoa x.a++[32])++(Lib.itoa x.b++[32])++(x.text++[10])
def writeS:Nat->List Ttl->List UInt8
 | _,[]=>[]
 | i,x::l=>lineS i x++writeS (i+1) l
theorem itoa_len {n:Int}(h:I64 n):(Lib.itoa n).length<=21:=Lib.itoa_length_le n h.1 (by have:=h.2;omega)
theorem writeS_snoc:∀(l:List Ttl)(i:Nat)(x:Ttl),writeS i (l++[x])=writeS i l++lineS (i+l.length) x
 | [],i,x=>by
  show lineS i x++[]=[]++lineS (i+0) x
  rw[List.append_nil,List.nil_append,Nat.add_zero]
 | y::l,i,x=>by
  rw[List.cons_append,writeS,writeS,writeS_snoc l (i+1) x,List.append_assoc,List.length_cons,show i+1+l.length=i+(l.length+1) by omega]
theorem line_pos (i:Nat)(x:Ttl):0<(lineS i x).length:=by
 unfold lineS
 simp only[List.length_append,List.length_cons,List.length_nil]
 omega
theorem line_len {i:Nat}{x:Ttl}(hi:i<1000)(ha:I64 x.a)(hb:I64 x.b)(ht:x.text.length<=80):(lineS i x).length<=200:=by
 have h1:=itoa_len (n:=(i:Int)+1) ⟨by omega,by omega⟩
 have h2:=itoa_len ha
 have h3:=itoa_len hb
 unfold lineS
 simp only[List.length_append,List.length_cons,List.length_nil]
 omega
def nthT (i:Nat)(x:Ttl)(j:Nat):Int:=if j=0 then (i:Int)+1 else if j=1 then x.a else x.b
def numsS (i:Nat)(x:Ttl):Nat->List UInt8
 | 0=>[]
 | j+1=>numsS i x j++(Lib.itoa (nthT i x j)++[32])
theorem line_eq (i:Nat)(x:Ttl):lineS i x=numsS i x 3++(x.text++[10]):=by
 unfold lineS
 show _=(([]++(Lib.itoa ((i:Int)+1)++[32]))++(Lib.itoa x.a++[32]))++(Lib.itoa x.b++[32])++(x.text++[10])
 rw[List.nil_append]
theorem nums_len {i:Nat}{x:Ttl}(hi:i<1000)(ha:I64 x.a)(hb:I64 x.b):∀j,(numsS i x j).length<=j*22
 | 0=>Nat.zero_le _
 | j+1=>by
  have ih:=nums_len hi ha hb j
  have:(Lib.itoa (nthT i x j)).length<=21:=itoa_len (by
   unfold nthT
   split
   ·exact⟨by omega,by omega⟩
   ·split
    ·exact ha
    ·exact hb)
  rw[numsS,List.length_append,List.length_append,List.length_cons,List.length_nil]
  omega
theorem writeS_len:∀(l:List Ttl)(i:Nat),i+l.length<1000->(∀x∈l,I64 x.a/\I64 x.b/\x.text.length<=80)->(writeS i l).length<=200*l.length
 | [],_,_,_=>Nat.zero_le _
 | x::l,i,hi,h=>by
  rw[List.length_cons] at hi
  have ih:=writeS_len l (i+1) (by omega) fun y hy=>h y (List.mem_cons_of_mem _ hy)
  obtain⟨h1,h2,h3⟩:=h x List.mem_cons_self
  have:=line_len (i:=i) (x:=x) (by omega) h1 h2 h3
  rw[writeS,List.length_append,List.length_cons]
  omega
set_option maxHeartbeats 4000000 in
theorem scWrite_sv {l:List Ttl}{al:Option Addr}{cl:Nat}{h:Heap}(hl:RowsAt 3 TtlR h al l)(hF:∀x∈l,x.Fit)(hL:Len l)(hLib:LibAt h)(hPow:PowAt h):Sv Tryz.prog 34 [.slice al l.length cl] h (RetP fun v h'=>v=.tuple ⟨[str (if titlesErr l=0 then writeS 0 l else []),i64 (titlesErr l)]⟩/\Ext h h'):=by
 refine Sv_wf fun hw=>?_
 refine Sv_enter Tryz.func34 rfl (by rw[Tryz.ntmps34];rfl) ?_;show Wc Tryz.prog ⟨34,43,none⟩ _ _ _ _ _
 refine zy ?_
 refine Wo_callE rfl rfl rfl rfl rfl Bod.h rfl rfl (strange_sv hl hF hL hLib) fun h1 hE1=>?_
 by_cases he:titlesErr l=0
 rotate_left
 ·rw[if_neg he]
  refine zy ?_
  refine Wo_do rfl rfl rfl rfl (A_tt he (A_neq rfl rfl)) ?_
  refine zy ?_
  exact Wc_ret (Lv_ret rfl ⟨rfl,hE1⟩)
 rw[if_pos he,he]
 obtain⟨hl40,htl,-⟩:=titles_each he
 refine zy ?_
 refine Wo_do rfl rfl rfl rfl (A_ff (by decide) (A_neq rfl rfl)) ?_
 refine zy ?_
 refine Wo_wf fun hw1=>?_
 refine Wo_alloc rfl rfl Zr.h fun h2 hE2 hW2 hg2 hn2=>?_
 have hb0:h.nx<=h1.nx:=hE1.2.1
 have hO2:Own h h2 [ceI h1.nx [.pointer none,.slice none 0 0] 162 false,slI h (.slice none 0 0) 5 1 (u8s []) ([]:List UInt8).length]:=((Own.nil h h1).nilSl 5 1).newCe hw1 hb0 hE2 hg2 (Nat.le_refl _)
 replace hE1:=hE1.trans hE2
 clear hg2 hn2 hW2 hE2 hw1
 generalize h1.nx=b at *
 clear hb0
 clear h1
 refine zy ?_
 refine Wc_loop (fun (s:Nat×Value×Value) m ds h'=>ds=[]/\s.1<=l.length/\Ext h h'/\(s.2.1=.pointer none\/s.2.1=.pointer (some ⟨b,0,none⟩))/\(0<(writeS 0 (l.take s.1)).length\/s.2.2=.slice none 0 0) ∧
   Own h h' [ceI b [s.2.1,s.2.2] 162 false,slI h s.2.2 5 1 (u8s (writeS 0 (l.take s.1))) (writeS 0 (l.take s.1)).length]/\AllK m [(5,.pointer (some ⟨b,0,none⟩)),(15,.slice al l.length cl),(16,i64 l.length),(17,i64 (s.1:Nat))]) (fun s=>l.length-s.1) (0,.pointer none,.slice none 0 0) ?_ ?_
 ·exact⟨rfl,Nat.zero_le _,hE1,.inl rfl,.inr rfl,hO2,rfl,rfl,rfl,rfl,trivial⟩
 clear hO2 hE1
 clear h2
 rintro⟨k,p,v⟩ m ds h3 ⟨rfl,hk,hE3,hp,hne,hO3,hall⟩
 simp only at hk hp hne hO3 hall
 refine Wc.le ?_ (Le.kn hall)
 clear hall
 have hWl:=writeS_len (l.take k) 0 (by rw[List.length_take];omega) (fun x hx=>by
  have hx':=List.mem_of_mem_take hx
  exact⟨(hF x hx').a,(hF x hx').b,(text_len (htl x hx').2.2.2).2⟩)
 rw[List.length_take] at hWl
 have hWl2:(writeS 0 (l.take k)).length<=8000:=by
  have:200*min k l.length<=200*40:=Nat.mul_le_mul_left _ (by omega)
  omega
 clear hWl
 refine zy ?_
 refine Wo_dec rfl rfl rfl rfl (A_lss rfl rfl) (fun hlt=>?_) (fun hlt=>?_)
 rotate_left
 ·have hk2:k=l.length:=by omega
  subst hk2
  rw[List.take_length] at hO3 hne hWl2
  refine zy ?_
  refine Wo_callr rfl rfl rfl rfl rfl Bod.h rfl rfl (builderStr_sv hw hE3 hO3 (by omega) hne) ?_
  rintro _ h4 ⟨rfl,hE4⟩
  refine zy ?_
  exact Wc_ret (Lv_ret rfl ⟨rfl,hE4⟩)
 have hk':k<l.length:=by omega
 have hF':=hF _ (List.getElem_mem hk')
 have hx:=htl _ (List.getElem_mem hk')
 have hsn:writeS 0 (l.take (k+1))=writeS 0 (l.take k)++lineS k l[k]:=by
  rw[List.take_succ_eq_append_getElem hk',writeS_snoc,List.length_take,Nat.min_eq_left (by omega),Nat.zero_add]
 have hlp:=line_pos k l[k]
 rw[line_eq] at hsn hlp
 obtain⟨bl,ol,oal,rfl,row,hrow,hr⟩:=hl k hk'
 generalize l[k]=x at *
 generalize writeS 0 (l.take k)=W at *
 obtain rfl:=hr
 have ht80:=(text_len hx.2.2.2).2
 replace hrow:=hE3.row hrow
 refine zy ?_
 refine Wo_do rfl rfl rfl rfl (A_ix Und.h Tsz.h rfl rfl) ?_
 refine zy ?_
 refine Wo_wf fun hw3=>?_
 refine Wo_alloc rfl rfl Zr.h fun h4 hE4 hW4 hg4 hn4=>?_
 have hO4:=hO3.newCe hw3 hE3.2.1 hE4 hg4 (Nat.le_refl _)
 have hE04:=hE3.trans hE4
 generalize h3.nx=b7 at *
 refine zy ?_
 refine Wo_store rfl Tsz.h rfl rfl hg4 rfl rfl rfl fun h5 hU5=>?_
 obtain⟨hO5,hE5⟩:=hO4.putCe hW4 hE04 hw hU5
 replace hO5:=hO5.dn3
 have hg7:h5.get b7=_:=hO5.p3
 clear hO4 hO3 hE04 hU5 hg4 hn4 hW4 hE4 hw3 hrow hE3
 clear h4 h3
 have hbuild:abuild Tryz.prog 163 [(0,i64 ((k:Int)+1)),(1,i64 x.a),(2,i64 x.b)]=some (.agg ⟨[i64 ((k:Int)+1),i64 x.a,i64 x.b]⟩):=by kernel_rfl
 refine zy ?_
 refine Wo_do rfl rfl rfl rfl (A_buildV rfl hbuild) ?_
 refine zy ?_
 refine Wc_loop (fun (s:Nat×Value×Value) m ds h'=>ds=[]/\s.1<=3/\Ext h h'/\(s.2.1=.pointer none\/s.2.1=.pointer (some ⟨b,0,none⟩)) ∧
   Own h h' [ceI b [s.2.1,s.2.2] 162 false,slI h s.2.2 5 1 (u8s (W++numsS k x s.1)) (W++numsS k x s.1).length,ceI b7 [i64 x.a,i64 x.b,str x.text] 75 false]/\AllK m [(5,.pointer (some ⟨b,0,none⟩)),(7,.pointer (some ⟨b7,0,none⟩)),(15,.slice (some ⟨bl,ol,oal⟩) l.length cl),(16,i64 l.length),(17,i64 (k:Nat)),(28,.agg ⟨[i64 ((k:Int)+1),i64 x.a,i64 x.b]⟩),(29,i64 (s.1:Nat))]) (fun s=>3-s.1) (0,p,v) ?_ ?_
 ·exact⟨rfl,Nat.zero_le _,hE5,hp,(by show Own h h5 [_,slI h v _ 1 (u8s (W++[])) (W++[]).length,_];rw[List.append_nil];exact hO5),rfl,rfl,rfl,rfl,rfl,rfl,rfl,trivial⟩
 clear hO5 hg7 hE5 hp hne
 clear h5
 rintro⟨j,p1,v1⟩ m ds h6 ⟨rfl,hj,hE6,hp1,hO6,hall⟩
 simp only at hj hp1 hO6 hall
 refine Wc.le ?_ (Le.kn hall)
 clear hall
 have hnl:=nums_len (i:=k) (x:=x) (by omega) hF'.a hF'.b j
 have hnl2:(W++numsS k x j).length<=8100:=by
  rw[List.length_append]
  have:j*22<=3*22:=Nat.mul_le_mul_right _ hj
  omega
 refine zy ?_
 by_cases hj3:j<3
 ·refine Wo_do rfl rfl rfl rfl (A_tt (by omega) (A_lss rfl rfl)) ?_
  have hidx:aindex Tryz.prog 163 (.agg ⟨[i64 ((k:Int)+1),i64 x.a,i64 x.b]⟩) (i64 (j:Nat))=some (i64 (nthT k x j)):=by
   obtain rfl|rfl|rfl:j=0\/j=1\/j=2:=by omega
   all_goals kernel_rfl
  have hI:I64 (nthT k x j):=by
   unfold nthT
   split
   ·exact⟨by omega,by omega⟩
   ·split
    ·exact hF'.a
    ·exact hF'.b
  have hil:=itoa_len hI
  refine zy ?_
  refine Wo_do rfl rfl rfl rfl (A_index rfl rfl hidx) ?_
  refine zy ?_
  refine Wo_callV rfl rfl rfl rfl rfl Bod.h rfl rfl (itoa_sv hI (hPow.ext hE6)) ?_
  refine zy ?_
  refine Wo_do rfl rfl rfl rfl (A_cat rfl rfl (by show (Lib.itoa (nthT k x j)).length+1<=_;omega)) ?_
  refine zy ?_
  refine Wo_callr rfl rfl rfl rfl rfl Bod.h rfl rfl (writeString_sv hw hE6 hO6 hp1 (by simp only[List.length_append,List.length_cons,List.length_nil] at hnl2 ⊢;omega)) ?_
  rintro _ h7 ⟨rfl,v',hO7,hE7⟩
  refine zy ?_
  exact⟨(j+1,.pointer (some ⟨b,0,none⟩),v'),(by show 3-(j+1)<3-j;omega),rfl,hj3,hE7,.inr rfl,(by show Own h h7 [_,slI h v' _ 1 (u8s (W++(numsS k x j++(Lib.itoa (nthT k x j)++[32])))) (W++(numsS k x j++(Lib.itoa (nthT k x j)++[32]))).length,_];rw[<-List.append_assoc];exact hO7),rfl,rfl,rfl,rfl,rfl,rfl,rfl,trivial⟩
 have hj3':j=3:=by omega
 subst hj3'
 refine Wo_do rfl rfl rfl rfl (A_ff (by omega) (A_lss rfl rfl)) ?_
 have hg7:h6.get b7=_:=hO6.p3
 refine zy ?_
 refine Wo_do rfl rfl rfl rfl (A_cat rfl rfl (by show x.text.length+1<=_;omega)) ?_
 refine zy ?_
 refine Wo_callr rfl rfl rfl rfl rfl Bod.h rfl rfl (writeString_sv hw hE6 hO6 hp1 (by simp only[List.length_append,List.length_cons,List.length_nil] at hnl2 ⊢;omega)) ?_
 rintro _ h7 ⟨rfl,v',hO7,hE7⟩
 have hO8:=hO7.sub (l':=[ceI b [.pointer (some ⟨b,0,none⟩),v'] 162 false,slI h v' 5 1 (u8s (W++numsS k x 3++(x.text++[10]))) (W++numsS k x 3++(x.text++[10])).length]) (.cons_cons _ (.cons_cons _ (.cons _ .slnil)))
 rw[List.append_assoc,<-hsn] at hO8
 refine zy ?_
 exact⟨(k+1,.pointer (some ⟨b,0,none⟩),v'),(by show l.length-(k+1)<l.length-k;omega),rfl,hk',hE7,.inr rfl,.inl (by rw[hsn,List.length_append];omega),hO8,rfl,rfl,rfl,rfl,trivial⟩
end Go.Dw
