/- UP: contracts: the library's strings.Fields at strings of ASCII, laid at this program. -/
import Derived.Lib.ItoaLen
import Derived.Test.YtphonfljfmedgaaGreatDoorAG18
import Derived.Test.YtphonfljfmedgaaGreatDoorAG2
import Derived.Test.YtphonfljfmedgaaGreatDoorAG5
import Derived.Test.YtphonfljfmedgaaGreatDoorAG11
import Derived.Test.YtphonfljfmedgaaGreatDoorAG13
set_option linter.unusedVariables false
set_option linter.unusedSimpArgs false
namespace Go.Dw
open Go Go.Dx Go.Proofs
set_option maxRecDepth 100000
def ZI6:Go.Shelf.Ren:=⟨fun|157=>20|199=>54|229=>53|261=>81|311=>110|312=>111|n=>n,fun|0=>0|3=>3|4=>4|5=>5|9=>9|21=>21|31=>66|40=>139|46=>168|49=>33|51=>178|119=>137|196=>210|141=>180|154=>177|152=>175|198=>212|193=>207|201=>215|194=>208|226=>247|227=>248|n=>n,fun|0=>0|6=>1|n=>n⟩
theorem ZOH:Go.Proofs.Lays.n157 Tryz.prog ZI6:={
 mixed:=by kernel_rfl
 f157:=Tryz.func20.trans (congrArg some (by kernel_rfl))
 f199:=Tryz.func54.trans (congrArg some (by kernel_rfl))
 f229:=Tryz.func53.trans (congrArg some (by kernel_rfl))
 f261:=Tryz.func81.trans (congrArg some (by kernel_rfl))
 f311:=Tryz.func110.trans (congrArg some (by kernel_rfl))
 f312:=Tryz.func111.trans (congrArg some (by kernel_rfl))
 t0:=Tryz.underlying0
 a0:=Tryz.isAgg0
 z0:=Tryz.sizeOf0
 v0:=Tryz.zeroValue0
 t3:=Tryz.underlying3
 a3:=Tryz.isAgg3
 z3:=Tryz.sizeOf3
 v3:=Tryz.zeroValue3
 t4:=Tryz.underlying4
 a4:=Tryz.isAgg4
 z4:=Tryz.sizeOf4
 v4:=Tryz.zeroValue4
 t5:=Tryz.underlying5
 a5:=Tryz.isAgg5
 z5:=Tryz.sizeOf5
 v5:=Tryz.zeroValue5
 t9:=Tryz.underlying9
 a9:=Tryz.isAgg9
 z9:=Tryz.sizeOf9
 v9:=Tryz.zeroValue9
 t21:=Tryz.underlying21
 a21:=Tryz.isAgg21
 z21:=Tryz.sizeOf21
 v21:=Tryz.zeroValue21
 t31:=Tryz.underlying66
 a31:=Tryz.isAgg66
 z31:=Tryz.sizeOf66
 v31:=Tryz.zeroValue66
 t40:=Tryz.underlying139
 a40:=Tryz.isAgg139
 z40:=Tryz.sizeOf139
 v40:=Tryz.zeroValue139
 t46:=Tryz.underlying168
 a46:=Tryz.isAgg168
 z46:=Tryz.sizeOf168
 v46:=Tryz.zeroValue168
 t49:=Tryz.underlying33
 a49:=Tryz.isAgg33
 z49:=Tryz.sizeOf33
 v49:=Tryz.zeroValue33
 t51:=Tryz.underlying178
 a51:=Tryz.isAgg178
 z51:=Tryz.sizeOf178
 v51:=Tryz.zeroValue178
 t119:=Tryz.underlying137
 a119:=Tryz.isAgg137
 z119:=Tryz.sizeOf137
 t141:=Tryz.underlying180
 a141:=Tryz.isAgg180
 z141:=Tryz.sizeOf180
 v141:=Tryz.zeroValue180
 t152:=Tryz.underlying175
 a152:=Tryz.isAgg175
 z152:=Tryz.sizeOf175
 v152:=Tryz.zeroValue175
 t154:=Tryz.underlying177
 a154:=Tryz.isAgg177
 z154:=Tryz.sizeOf177
 v154:=Tryz.zeroValue177
 t193:=Tryz.underlying207
 a193:=Tryz.isAgg207
 z193:=Tryz.sizeOf207
 v193:=Tryz.zeroValue207
 t194:=Tryz.underlying208
 a194:=Tryz.isAgg208
 z194:=Tryz.sizeOf208
 v194:=Tryz.zeroValue208
 t196:=Tryz.underlying210
 a196:=Tryz.isAgg210
 z196:=Tryz.sizeOf210
 v196:=Tryz.zeroValue210
 t198:=Tryz.underlying212
 a198:=Tryz.isAgg212
 z198:=Tryz.sizeOf212
 v198:=Tryz.zeroValue212
 t201:=Tryz.underlying215
 a201:=Tryz.isAgg215
 z201:=Tryz.sizeOf215
 v201:=Tryz.zeroValue215
 t226:=Tryz.underlying247
 a226:=Tryz.isAgg247
 z226:=Tryz.sizeOf247
 v226:=Tryz.zeroValue247
 t227:=Tryz.underlying248
 a227:=Tryz.isAgg248
 z227:=Tryz.sizeOf248
 v227:=Tryz.zeroValue248
 g0:=by kernel_rfl
 g6:=by kernel_rfl
}
theorem ZLH {ι:Iota}{h:Heap}{w:World}{vs:List Value}{el:TypeId}{n:Nat}(hr:HR ι h w.heap)(hf:ZBZ vs=true):ZEk ι h w (.ret (.slice (some ⟨h.nx,0,none⟩) n n) (h.add (.cells vs el false))) (.returned (.slice (some ⟨w.heap.size,0,none⟩) n n)) (w.alloc (.cells vs.toArray el)):=by
 obtain⟨ι',bi,e1,e2,e3,e4⟩:=hr.newCells (VRL.of_flat ι hf) el;refine⟨ι',_,rfl,?_,e3,e4⟩;have:=VR.sl (o:=0) (l:=n) (c:=n) e1;rw[e2] at this;exact this
theorem ZJj:∀l:List (List UInt8),ZBZ (l.map str)=true
 | []=>rfl
 | _::l=>ZJj l
theorem ZKI {s:List UInt8}{h:Heap}(hs:s.length<4294967281)(ha:∀b∈s,b.toNat<128)(hL:WkLib h):Sv Tryz.prog 20 [str s] h (RetP fun v h'=>∃b,v=.slice (some ⟨b,0,none⟩) (Lib.fields s).length (Lib.fields s).length/\Own h h' [ceI b ((Lib.fields s).map str) 9 false]/\Ext h h'):=by
 refine ZA0 fun hw=>?_;refine⟨fun ι w args' hr hv=>?_⟩;have ha':args'.toList=[str s]:=hv.flat_eq rfl;have ha2:args'=#[str s]:=by rw[<-Array.toArray_toList (xs:=args'),ha']
 subst ha2;refine (Any.strings_Fields ZOH (by kernel_rfl) (by kernel_rfl) ⟨⟨s⟩⟩ w hs (fun j b hb=>ha b (List.mem_of_getElem? hb)) (hL.w hr).sp).mono ?_;rintro e w' ⟨rfl,rfl⟩;exact⟨.ret (.slice (some ⟨h.nx,0,none⟩) (Lib.fields s).length (Lib.fields s).length) (h.add (.cells ((Lib.fields s).map str) 9 false)),⟨h.nx,rfl,(Own.nil h h).newCe hw (Nat.le_refl _) (Ext.add hw _) Heap.get_add_same (Nat.le_refl _),Ext.add hw _⟩,ZLH hr (ZJj _)⟩
theorem ZMf {n:Int}(h:I64 n):(Lib.itoa n).length<=21:=Lib.itoa_length_le n h.1 (by have:=h.2;omega)
theorem ZB5 (s:Wd):∀{l:List Int},(∀x∈l,I64 x)->(ZBF s l).length<=s.length+22*l.length
 | [],_=>by simp[ZBF]
 | x::l,h=>by
  have h1:=ZMf (h x List.mem_cons_self);have h2:=ZB5 s (l:=l) fun y hy=>h y (List.mem_cons_of_mem _ hy);unfold ZBF at h2 ⊢;rw[List.flatMap_cons];simp only[List.length_append,List.length_cons] at h2 ⊢;omega
theorem ZEC {a:Option Addr}{cap:Nat}{l:List Int}{s:Wd}{h:Heap}(hI:ZBf i64 h a l)(hb:∀x∈l,I64 x)(hlen:l.length<=100)(hs:s.length<=100000)(hL:WkLib h) :
  Sv Tryz.prog 52 [str s,.slice a l.length cap] h (RetP fun v h'=>v=str (ZBF s l)/\h'=h):=by
 have hjl:=fun k=>ZB5 s (l:=l.take k) fun x hx=>hb x (List.mem_of_mem_take hx);refine ZAF Tryz.func52 rfl (by rw[Tryz.ntmps52];rfl) ?_;show Wc Tryz.prog ⟨52,20,none⟩ _ _ _ _ _;refine zy ?_;refine ZAS (fun (k:Nat) m ds h'=>ds=[]/\h=h'/\k<=l.length/\AllK m [(0,str (ZBF s (l.take k))),(7,.slice a l.length cap),(8,i64 l.length),(9,i64 (k:Nat))]) (fun k=>l.length-k) 0 ?_ ?_
 ·refine⟨rfl,rfl,Nat.zero_le _,?_,rfl,rfl,rfl,trivial⟩
  show some (str s)=some (str (s++[]))
  rw[List.append_nil]
 rintro k m ds h' ⟨rfl,rfl,hk,hall⟩;refine Wc.le ?_ (Le.kn hall);clear hall;have hjk:=hjl k;rw[List.length_take] at hjk;refine zy ?_;refine zC (ZAx rfl rfl) (fun hlt=>?_) (fun hlt=>?_);rotate_left
 ·have:k=l.length:=by omega
  subst this;rw[List.take_length];refine zy ?_;exact ZAB (ZAC rfl ⟨rfl,rfl⟩)
 have hk':k<l.length:=by omega
 obtain⟨b,o,oa,rfl,hc⟩:=hI k hk';have hx:=hb _ (List.getElem_mem hk');have htk:l.take (k+1)=l.take k++[l[k]]:=by rw[List.take_add_one,List.getElem?_eq_getElem hk'];rfl
 generalize l[k]=x at *;have hsn:=ZNM s (l.take k) x;rw[<-htk] at hsn;have hil:=ZMf hx;refine zy ?_;refine zD (A_ix Und.h Tsz.h rfl rfl) ?_;refine zU (ZSk hx hL) ?_;refine zE (ZBl rfl rfl (show ([32]:Wd).length+(Lib.itoa x).length<_ by simp;omega)) ?_;refine zD (ZBl rfl rfl (by simp;omega)) ?_;refine⟨k+1,(by show l.length-(k+1)<l.length-k;omega),rfl,rfl,hk',?_,rfl,rfl,rfl,trivial⟩;rw[hsn];rfl
abbrev ZGi:List Value:=[str [],str [110,105,116,114,97,116,101],str [97,99,101,116,97,116,101],str [112,111,108,121,101,115,116,101,114]]
theorem ZMd (h:Heap):Sv Tryz.prog 24 [] h (RetP fun v h'=>v=.agg ⟨ZGi⟩/\Ext h h'):=by
 refine ZA0 fun hw=>?_;refine ZAF Tryz.func24 rfl (by rw[Tryz.ntmps24];rfl) ?_;show Wc Tryz.prog ⟨24,2,none⟩ _ _ _ _ _;refine zy ?_;refine ZAa rfl rfl Zr.h fun h1 hE1 hW1 hg1 hn1=>?_;refine zy ?_;refine zE (ZAZ (v:=.agg ⟨ZGi⟩) rfl (by kernel_rfl)) ?_;refine ZAe (r:=ZGi) rfl Tsz.h rfl rfl hg1 rfl rfl rfl fun h2 hU2=>?_;have hE2:=hU2.ext hE1 hw (Nat.le_refl _);refine zy ?_;exact ZAB (ZAC (ZAW rfl (ZAt RowC.h (ZAL hU2.at' rfl)) rfl) ⟨rfl,hE2⟩)
theorem ZRC:ZEp Tryz.prog 73 (.agg ⟨ZGi⟩) (i64 1)=some (str (ZEh 1)):=by kernel_rfl
theorem ZQK:ZEp Tryz.prog 73 (.agg ⟨ZGi⟩) (i64 2)=some (str (ZEh 2)):=by kernel_rfl
theorem ZQs:ZEp Tryz.prog 73 (.agg ⟨ZGi⟩) (i64 3)=some (str (ZEh 3)):=by kernel_rfl
theorem ZTN {b:Int}(h:1<=b/\b<=3):ZEp Tryz.prog 73 (.agg ⟨ZGi⟩) (i64 b)=some (str (ZEh b)):=by
 have:b=1\/b=2\/b=3:=by omega
 rcases this with rfl|rfl|rfl
 ·exact ZRC
 ·exact ZQK
 ·exact ZQs
theorem ZCt {α:Type}{enc:α->Value}{h:Heap}{b:Nat}{sp:Option Nat}{el:TypeId}{op:Bool}{l:List α}(hg:h.get b=some (.cells (l.map enc) el op)):ZBf enc h (some ⟨b,0,sp⟩) l:=fun i hi=>⟨b,0,sp,rfl,ZAP hg (by simp[ZAq,hi])⟩
def ZAu (r:Rl):List Wd:=(ZCK r).map ZBX
theorem ZP6 (m:I3):ZBF ZGG [m.1,m.2.1,m.2.2]=ZBX (ZDN m):=by
 simp[ZBF,ZDN,ZBX]
theorem ZRA (m:Int×Int):ZBF ZCj [m.1,m.2]=ZBX (symW m):=by
 simp[ZBF,symW,ZBX]
theorem ZRs (m:I3):ZBF ZCi [m.1,m.2.1,m.2.2]=ZBX (lenW m):=by
 simp[ZBF,lenW,ZBX]
abbrev hd1 (r:Rl):Wd:=([82,69,69,76,32]++r.name)++[32,71,65,85,71,69]
abbrev hd2 (r:Rl):Wd:=([32,66,65,83,69,32]++ZEh r.base)++[32,70,82,65,77,69,83]
theorem ZPL (r:Rl):(ZGH r).map ZBX=[ZBF (hd1 r) [r.gauge]++ZBF (hd2 r) [r.frames],ZBF ZEE [r.ylo,r.yhi]++ZBF (32::ZG2) [r.keep]]:=by
 simp[ZGH,ZBF,ZBX,ZP5,ZJ3,ZPv,ZHM,ZEE,ZG2]
end Go.Dw
