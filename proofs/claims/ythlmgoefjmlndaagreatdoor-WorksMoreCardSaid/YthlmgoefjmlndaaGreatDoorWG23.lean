/- K1: contracts: clashes, as the reference finds them. -/
import Derived.Test.YthlmgoefjmlndaaGreatDoorWG2
import Derived.Test.YthlmgoefjmlndaaGreatDoorWG22
set_option linter.unusedVariables false
set_option linter.unusedSimpArgs false
namespace Go.Dw
open Go Go.Dx Go.Proofs
set_option maxRecDepth 100000
abbrev Cls:=Key×List Str
def clF (S:List WkR)(x:WkR):List Cls:=if ZA3 (nxtW S) x.a x.b (nodW S).length=[] then [] else [(x.key,ZA3 (nxtW S) x.a x.b (nodW S).length)]
def clsL (S L:List WkR):List Cls:=L.flatMap fun x=>if x.kind=3 then clF S x else []
theorem ZOx (S:List WkR):∀L:List WkR,(ofK [3] L).flatMap (clF S)=clsL S L
 | []=>rfl
 | x::L=>by
  have ih:=ZOx S L;unfold clsL at ih ⊢;rw[List.flatMap_cons,<-ih];unfold ofK
  by_cases h:x.kind=3
  ·rw[List.filter_cons,if_pos (by simp[h]),List.flatMap_cons,if_pos h]
  ·rw[List.filter_cons,if_neg (by simp[h]),if_neg h];rfl
theorem ZM9 (S L:List WkR):(clsL S L).length<=L.length:=by
 induction L with
 | nil=>exact Nat.le_refl _
 | cons x L ih =>
  unfold clsL at ih ⊢;rw[List.flatMap_cons,List.length_append,List.length_cons];have:(if x.kind=3 then clF S x else []).length<=1:=by
   split
   ·unfold clF;split <;> simp
   ·exact Nat.zero_le _
  omega
def ClsR (h:Heap)(row:List Value)(c:Cls):Prop:=∃a k,row=[str c.1.1,i64 c.1.2,.slice a c.2.length k]/\ZAs str h a c.2
theorem ClsR.ext {h h':Heap}{row:List Value}{c:Cls}(hr:ClsR h row c)(hE:Ext h h'):ClsR h' row c:=by
 obtain⟨a,k,e,hl⟩:=hr;exact⟨a,k,e,hl.ext hE⟩
abbrev rowC (c:Value×Cls):List Value:=[str c.2.1.1,i64 c.2.1.2,c.1]
def cI (h0:Heap)(c:Value×Cls):It:=slI h0 c.1 9 1 (c.2.2.map str) c.2.2.length
def clI (h0:Heap)(v:Value)(C:List (Value×Cls)):It:=slI h0 v 62 3 (C.flatMap rowC) C.length
theorem ZSm {h0 h:Heap}{v:Value}{C:List (Value×Cls)}{I:List It}(hO:Own h0 h (clI h0 v C::(C.map (cI h0)++I))):∃a,v=.slice a C.length C.length/\ZAm 3 ClsR h a (C.map Prod.snd):=by
 obtain⟨a,hv,hS,-⟩:=ZAB.rowsAt (enc:=rowC) (k:=3) (fun _=>rfl) (show ZAB h0 h v 62 3 _ _ from hO.p1) rfl;refine⟨a,hv,fun i hi=>?_⟩;have hi':i<C.length:=by simpa using hi
 obtain⟨b,o,oa,rfl,row,hr,hx⟩:=hS.1 i hi';refine⟨b,o,oa,rfl,row,hr,?_⟩;have hx':row=rowC C[i]:=hx;subst hx';rw[List.getElem_map];have hF:ZAB h0 h C[i].1 9 1 (C[i].2.2.map str) C[i].2.2.length:=hO.has (cI h0 C[i]) (List.mem_cons_of_mem _ (List.mem_append_left _ (List.mem_map.2 ⟨_,List.getElem_mem hi',rfl⟩)));obtain⟨ac,hvc,-,hl⟩:=ZAB.list (enc:=str) hF;exact⟨ac,C[i].2.2.length,by rw[<-hvc],hl⟩
theorem ZRi {S:List WkR}{x:WkR}(hx:x∈S)(h:x.kind=3):x.a∈nodW S:=by
 unfold nodW;refine List.mem_append_left _ (List.mem_append_right _ (ZCG.2 ⟨tieS x,List.mem_map.2 ⟨x,ZBb.2 ⟨hx,by simp[h]⟩,rfl⟩,.inl rfl⟩))
theorem ZNJ {h:Heap}{b o:Nat}{x y z:Value}(hr:ZAl h b o 3=some [x,y,z]):ZAl h b (o+0) 2=some [x,y]:=by
 have hcut:∀{vs l:List Value},cut vs o 3=some l->cut vs (o+0) 2=some (l.take 2):=fun {vs l} hq=>by
  obtain⟨g1,g2⟩:=ZC2 hq;rw[Nat.add_zero,ZCi (by omega),g2,List.take_take]
  rfl
 unfold ZAl at hr ⊢
 split at hr
 ·exact hcut hr
 ·rename_i lim ob hg
  unfold rdo at hr ⊢
  split at hr
  ·rename_i c t fz
   cases hq:cut c.toList o 3 with
   | none=>rw[hq] at hr;cases hr
   | some l3 =>
    rw[hq] at hr;simp only at hr ⊢
    cases ha:l3.all (okv lim) with
    | false=>rw[ha] at hr;cases hr
    | true =>
     rw[ha] at hr;have hr':l3.map nz=[x,y,z]:=Option.some.inj hr;have h2:(l3.take 2).all (okv lim)=true:=List.all_eq_true.2 fun v hv=>List.all_eq_true.1 ha v (List.mem_of_mem_take hv);rw[hcut hq];simp only;rw[h2]
     show some ((l3.take 2).map nz)=_
     rw[List.map_take,hr']
     rfl
  ·cases hr
 ·cases hr
section
variable {P:Program}{m:Mem}{h:Heap}{d:Option Tmp}{ty:TypeId}{pos:String}{af:Array Edge}{gu:Option (Nat×Bool)}{t tz el:TypeId}{x y:Operand}
theorem ZP3 (hu:P.underlying t=some (.slice el))(hx:opk h m x=some (.slice none 0 0))(hy:opk h m y=some (.slice none 0 0)):Aop P ⟨d,.binOp .neq t x y tz,ty,pos,af,gu⟩ m h (.bool false) h :=
 ZCn hx hy rfl rfl rfl fun w=>by
  have h2:(eqGuard .neq t x y (.slice none 0 0) (.slice none 0 0)).run P w=.ok () w:=rfl;simp only[Sem.run_bind,h2,Result.andThen_ok]
  show (do pure (.bool (!(<-Op.equalIn (9999+1) t (.slice none 0 0) (.slice none 0 0)))):Sem Value).run P w=_
  simp only[Sem.run_bind,ZF8 hu,Result.andThen_ok,Sem.run_pure]
  rfl
theorem ZPP {a:Addr}{n c:Nat}(hu:P.underlying t=some (.slice el))(hx:opk h m x=some (.slice (some a) n c))(hy:opk h m y=some (.slice none 0 0)):Aop P ⟨d,.binOp .neq t x y tz,ty,pos,af,gu⟩ m h (.bool true) h :=
 ZAf fun e hs=>by
  show pBin P _ h e .neq t x y=_
  unfold pBin;simp only[ZAJ hs hx,ZAJ hs hy];have:ZDi P .neq t (.slice (some a) n c) (.slice none 0 0)=some (.bool true):=by
   unfold ZDi;rw[hu]
   rfl
  simp only[this]
end
set_option maxHeartbeats 1000000 in
theorem ZQ4 {σ:Type}{X:σ->List It}{h0:Heap}{c1 c2 bk cap:Nat}{a:Option Addr}{sp:Option Nat}{op:Bool}{s:List WkR}{ks:List Int}(hls:Len s)(hlk:Len ks)
  (hX:∀st,ceI c1 [.slice a s.length cap] 127 false∈X st/\ceI c2 [.slice (some ⟨bk,0,sp⟩) ks.length ks.length] 39 false∈X st/\ceI bk (ks.map i64) 3 op∈X st/\∃c,slI h0 (.slice a s.length c) 44 6 (s.flatMap rowW) s.length∈X st) :
  ZM2 Tryz.prog 110 [.pointer (some ⟨c1,0,none⟩),.pointer (some ⟨c2,0,none⟩)] h0 X (ofK ks s) encW:=by
 intro l hL J hJ0 hJd hJe hy
 have hgot:∀{pre h'},J pre h'->Ext h0 h'/\h'.get c1=some (.cells [.slice a s.length cap] 127 false)/\h'.get c2=some (.cells [.slice (some ⟨bk,0,sp⟩) ks.length ks.length] 39 false)/\h'.get bk=some (.cells (ks.map i64) 3 op)/\ZAm 6 (fun _ row x=>row=rowW x) h' a s:=fun {pre h'} hJ=>by
  obtain⟨hE,st,R,hO⟩:=hJd pre h' hJ;obtain⟨x1,x2,x3,c,x4⟩:=hX st;have hF:ZAB h0 h' (.slice a s.length c) 44 6 (s.flatMap rowW) s.length:=hO.has _ (List.mem_append_left _ x4);obtain⟨a',e,hS,-⟩:=ZAB.rowsAt (enc:=rowW) (k:=6) (fun _=>rfl) hF rfl;simp only[Value.slice.injEq] at e;obtain⟨rfl,-,-⟩:=e;exact⟨hE,hO.has _ (List.mem_append_left _ x1),hO.has _ (List.mem_append_left _ x2),hO.has _ (List.mem_append_left _ x3),hS.1⟩
 refine ZAF Tryz.func110 rfl (by rw[Tryz.ntmps110];rfl) ?_;show Wc Tryz.prog ⟨110,23,none⟩ _ _ _ _ _;obtain⟨hE0,hg1,hg2,hg3,-⟩:=hgot hJ0;refine zy ?_;refine ZAP (fun (i:Nat) m ds h'=>ds=[]/\i<=s.length/\J (ofK ks (s.take i)) h'/\AllK m [(0,.func (.yield l) ⟨[]⟩ ⟨[]⟩),(1,.pointer (some ⟨c1,0,none⟩)),(2,.pointer (some ⟨c2,0,none⟩)),(6,.slice a s.length cap),(7,i64 s.length),(8,i64 (i:Nat))]) (fun i=>s.length-i) 0 ?_ ?_
 ·exact⟨rfl,Nat.zero_le _,hJ0,rfl,rfl,rfl,rfl,rfl,rfl,trivial⟩
 clear hE0 hg1 hg2 hg3 hJ0;rintro i m ds h1 ⟨rfl,hi,hJ1,hall⟩;refine Wc.le ?_ (Le.kn hall);clear hall;refine zy ?_;refine ZAS rfl rfl rfl rfl (ZAd rfl rfl) (fun hil=>?_) (fun hil=>?_);rotate_left
 ·have:i=s.length:=by omega
  subst this;rw[List.take_length] at hJ1;refine zy ?_;exact ZAv rfl hJ1
 have hi':i<s.length:=by omega
 obtain⟨hE1,hg1,hg2,hg3,hR⟩:=hgot hJ1;obtain⟨b,o,oa,rfl,row,hrow,hx⟩:=hR i hi';have hx2:row=rowW s[i]:=hx;have htk:s.take (i+1)=s.take i++[s[i]]:=by rw[List.take_add_one,List.getElem?_eq_getElem hi'];rfl
 have hsp:s[i].kind∈ks->ofK ks s=ofK ks (s.take i)++s[i]::ofK ks (s.drop (i+1)):=fun hk=>by
  have:s=s.take i++(s[i]::s.drop (i+1)):=by rw[<-List.drop_eq_getElem_cons hi',List.take_append_drop]
  conv=>lhs;rw[this]
  unfold ofK;rw[List.filter_append,List.filter_cons,if_pos (decide_eq_true hk)]
 clear hx;have hof:ofK ks (s.take i++[s[i]])=ofK ks (s.take i)++if s[i].kind∈ks then [s[i]] else []:=by
  unfold ofK;rw[List.filter_append]
  congr 1
  by_cases q:s[i].kind∈ks <;> simp[q]
 have hint:ZAs i64 h1 (some ⟨bk,0,sp⟩) ks:=fun j hj=>⟨bk,0,sp,rfl,by
  rw[Nat.zero_add];exact ZAb hg3 (by rw[ZAn,Nat.mul_one,List.getElem?_map,List.getElem?_eq_getElem hj];rfl)⟩
 generalize s[i]=x at *;subst hx2;refine zy ?_;refine ZAD rfl rfl rfl rfl (A_ix Und.h Tsz.h rfl rfl) ?_;refine zy ?_;refine ZAM rfl rfl Zr.h Tsz.h rfl (fun _=>rfl) rfl rfl rfl fun h2 hE2 hW2 hg22 hn2=>?_;have k2:=hE2.get hg2;have hJ2:=hJe _ _ _ hJ1 hE2;have hin2:ZAs i64 h2 (some ⟨bk,0,sp⟩) ks:=hint.ext hE2;refine zy ?_;refine ZAT rfl rfl rfl rfl rfl Bod.h rfl rfl (ZDk (k:=x.kind) hin2 hlk) ?_
 by_cases hk:x.kind∈ks
 ·rw[if_pos hk] at hof
  rw[decide_eq_true hk];refine zy ?_;refine ZMs rfl rfl rfl rfl rfl rfl rfl (hy _ x _ h2 (hsp hk) hJ2) ?_;rintro _ h3 ⟨rfl,hJ3⟩;refine zy ?_;exact⟨i+1,(by show s.length-(i+1)<s.length-i;omega),rfl,hi',(by rw[htk,hof];exact hJ3),rfl,rfl,rfl,rfl,rfl,rfl,trivial⟩
 ·rw[if_neg hk,List.append_nil] at hof
  rw[decide_eq_false hk];refine zy ?_;exact⟨i+1,(by show s.length-(i+1)<s.length-i;omega),rfl,hi',(by rw[htk,hof];exact hJ2),rfl,rfl,rfl,rfl,rfl,rfl,trivial⟩
def clX (h0:Heap)(b2:Nat)(T:List It)(G:Value×List (Value×Cls)):List It:=clI h0 G.1 G.2::ceI b2 [G.1] 55 false::(G.2.map (cI h0)++T)
set_option maxHeartbeats 4000000 in
theorem ZN5 {ad:Option Addr}{cap:Nat}{l:List WkR}{h:Heap}(hR:SrcK rowW 6 h ad l)(hn:ad=none->l=[]/\cap=0)(hf:∀x∈l,x.Fit)(hlen:Len l)(hL:WkLib h) :
  Sv Tryz.prog 36 [.slice ad l.length cap] h (RetP fun v h'=>(((chkS l).2≠0/\v=.tuple ⟨[.slice none 0 0,i64 (chkS l).2]⟩)\/((chkS l).2=0/\∃a k,v=.tuple ⟨[.slice a (clsL (ZAK (mrgU ltW l)) (ZAK (mrgU ltW l))).length k,i64 0]⟩/\ZAm 3 ClsR h' a (clsL (ZAK (mrgU ltW l)) (ZAK (mrgU ltW l)))))/\Ext h h'):=by
 refine ZC6 fun hw=>?_;have hcl:=ZDF (l:=l)
 have hcg:(chkS l).2=0->∀x∈ZAK (mrgU ltW l),ZAw x=0:=fun hc=>by
  have h1:=ZDF hc;have h2:=ZEg (l:=l) (i:=0) (by unfold chkS at hc;rw[if_neg (by omega)] at hc;exact hc);exact fun x hx=>h2 x (ZDP hx)
 have hsl:(ZAK (mrgU ltW l)).length<=l.length:=ZFZ l;have hsf:∀x∈ZAK (mrgU ltW l),x.Fit:=fun x hx=>hf x (ZDP hx);refine ZAF Tryz.func36 rfl (by rw[Tryz.ntmps36];rfl) ?_;show Wc Tryz.prog ⟨36,40,none⟩ _ _ _ _ _;refine zy ?_;refine ZCK rfl rfl Zr.h fun h1 hE1 hW1 hg1 hn1=>?_;have hO1:=(Own.nil h h).newCe hw (Nat.le_refl _) hE1 hg1 (Nat.le_refl _);generalize h.nx=b2 at hO1 hg1 ⊢;refine zy ?_;refine ZAI rfl rfl rfl rfl rfl Bod.h rfl rfl (ZMZ (hR.ext hE1) hn hf hlen (hL.ext hE1)) ?_;rintro v h2 ⟨hOp,hE12⟩;have hO2:=hO1.ext hE12;have hE2:=hE1.trans hE12
 rcases hOp with ⟨hc,rfl⟩|⟨hc,vs,vf,rfl,hFs,-⟩
 ·refine zy ?_
  refine ZAD rfl rfl rfl rfl (A_tt hc (ZBm rfl rfl)) ?_;refine zy ?_;refine ZDn hw hE2 rfl Tsz.h rfl rfl hO2 rfl rfl rfl fun h3 hW3 hO3 hE3=>?_;have hg3:h3.get b2=some (.cells [.slice none 0 0] 55 false):=hO3.p1;refine zy ?_;exact ZAG (ZAH (vs:=[.slice none 0 0,i64 (chkS l).2]) (ZDc rfl (ZIR OneC.h (ZAb hg3 rfl)) (ZMi rfl rfl)) ⟨.inl ⟨hc,rfl⟩,hE3⟩)
 replace hcg:=hcg hc;replace hcl:=hcl hc;have hO2s:=hO1.newSl hW1 hE1.2.1 hE12 hFs;generalize ZAK (mrgU ltW l)=S at *;obtain⟨aS,rfl,hS2,-⟩:=ZAB.rowsAt (enc:=rowW) (k:=6) (fun _=>rfl) hFs rfl;have hnl:(nodW S).length<=10000:=Nat.le_trans (ZHD S) (by omega);have hne:=ZKG hcg;refine zy ?_;refine ZAD rfl rfl rfl rfl (A_ff (fun q=>q rfl) (ZBm rfl rfl)) ?_;refine zy ?_;refine ZBT fun hW2=>?_;refine ZAI rfl rfl rfl rfl rfl Bod.h rfl rfl (ZPc hS2 hsf (by omega)) ?_;rintro _ h3 ⟨hE23,bm,rfl,gw,D,hOw,hon,hk1,hk2⟩;have hO3:=hO2s.join hW2 hE2.2.1 hE23 hOw;have hE3:=hE2.trans hE23;generalize hDL:D.map (fun d=>liI d.2.1 (nxtW S d.1))=DL at hO3
 refine zy ?_;refine ZBT fun hW3=>?_;refine ZCK rfl rfl Zr.h fun h4 hE34 hW4 hg4 hn4=>?_;have hO4:=hO3.newCe hW3 hE3.2.1 hE34 hg4 (Nat.le_refl _);have hE4:=hE3.trans hE34;generalize h3.nx=b6 at hO4 hg4 ⊢;refine zy ?_;refine ZDn hw hE4 rfl Tsz.h rfl rfl hO4 rfl rfl rfl fun h5 hW5 hO5 hE5=>?_;clear hO4 hO3 hO2s hO2 hO1 hE4 hE34 hE3 hE23 hOw hS2 hg4 hg1 hE2 hE12 hE1 hFs;refine zy ?_;refine ZBu rfl rfl Und.h Tsz.h Zr.h rfl rfl rfl rfl rfl fun h6 hE56 hW6 hg6 hn6=>?_;have hO6:=hO5.newCe hW5 hE5.2.1 hE56 hg6 (Nat.le_refl _);have hE6:=hE5.trans hE56;generalize h5.nx=bk at hO6 hg6 ⊢;refine zy ?_;refine ZAI rfl rfl rfl rfl rfl Bod.h rfl rfl ZLX ?_
 rintro _ h7 ⟨c1,c2,rfl,hE67,hI7⟩;have hO7:=hO6.join hW6 hE6.2.1 hE67 hI7;have hE7:=hE6.trans hE67;clear hO6 hO5 hE6 hE5 hE56 hE67 hI7 hg6 hn6;refine zy ?_;obtain⟨T,hT⟩:∃T,T=[ceI c1 [.slice aS S.length S.length] 127 false,ceI c2 [.slice (some ⟨bk,0,none⟩) 1 1] 39 false]++(ceI bk [i64 3] 3 false::ceI b6 [.map (some bm)] 133 false::(mapI strK bm gw::DL++[slI h (.slice aS S.length S.length) 44 6 (S.flatMap rowW) S.length])):=⟨_,rfl⟩;have hO8:Own h h7 (T++[ceI b2 [.slice none 0 0] 55 false]):=by
  have h1:Own h h7 ([ceI c1 [.slice aS S.length S.length] 127 false,ceI c2 [.slice (some ⟨bk,0,none⟩) 1 1] 39 false]++(ceI bk [i64 3] 3 false::ceI b6 [.map (some bm)] 133 false::(mapI strK bm gw::DL++[slI h (.slice aS S.length S.length) 44 6 (S.flatMap rowW) S.length,ceI b2 [.slice none 0 0] 55 false]))):=hO7;rw[hT]
  simpa only[List.append_assoc,List.cons_append,List.nil_append] using h1
 have hO9:Own h h7 (clX h b2 T (.slice none 0 0,[])):=(hO8.perm (List.perm_append_singleton _ _)).nilSl _ _;clear hO7 hO8;have m1:ceI c1 [.slice aS S.length S.length] 127 false∈T:=by rw[hT];simp
 have m2:ceI c2 [.slice (some ⟨bk,0,none⟩) 1 1] 39 false∈T:=by rw[hT];simp
 have m3:ceI bk [i64 3] 3 false∈T:=by rw[hT];simp
 have m4:ceI b6 [.map (some bm)] 133 false∈T:=by rw[hT];simp
 have m5:mapI strK bm gw∈T:=by rw[hT];simp
 have m6:slI h (.slice aS S.length S.length) 44 6 (S.flatMap rowW) S.length∈T:=by rw[hT];simp
 have m7:∀x∈DL,x∈T:=fun x hx=>by rw[hT];simp[hx]
 have hWeb:∀h',(∀x∈T,x.p h')->ZNz h' bm S:=fun h' hp=>⟨gw,hp _ m5,hon,hk1,fun k hk=>by
  obtain⟨d,hd,rfl,e⟩:=hk2 k hk;exact⟨d.2.1,d.2.2,e,hp (liI d.2.1 (nxtW S d.1)) (m7 _ (by rw[<-hDL];exact List.mem_map.2 ⟨d,hd,rfl⟩))⟩⟩
 clear hT hk2 hk1 hon hDL;refine ZCV (q:=7) (X:=clX h b2 T) (ok:=fun pre G=>G.2.map Prod.snd=pre.flatMap (clF S)) (L:=ofK [3] S) (enc:=encW) (cs:=rowW) (el:=44) (op:=false) (s0:=(.slice none 0 0,[])) rfl rfl Bod.h rfl hw hE7 hO9 rfl (ZQ4 (a:=aS) (c1:=c1) (c2:=c2) (bk:=bk) (cap:=S.length) (sp:=none) (op:=false) (ks:=[3]) (show _<_ by omega) (show (1:Nat)<_ by decide) fun st=>⟨List.mem_cons_of_mem _ (List.mem_cons_of_mem _ (List.mem_append_right _ m1)),List.mem_cons_of_mem _ (List.mem_cons_of_mem _ (List.mem_append_right _ m2)),List.mem_cons_of_mem _ (List.mem_cons_of_mem _ (List.mem_append_right _ m3)),S.length,List.mem_cons_of_mem _ (List.mem_cons_of_mem _ (List.mem_append_right _ m6))⟩) (fun l x h'=>?_) (fun l bn pre x post G h8 R hsp hok hO hE8=>?_) (fun G8 h8 hok8 hO8' hE8=>?_)
 ·refine ZBW ?_
  refine ZAM rfl rfl Zr.h Tsz.h rfl (fun _=>rfl) rfl rfl rfl fun h8 hE8 hW8 hg8 hn8=>?_;exact ZDv ⟨rfl,rfl,rfl,hE8,hg8⟩
 ·obtain⟨hpl,hxs,hxk⟩:=ZIX hsp
  have hx3:x.kind=3:=by simpa using hxk
  have hgn:h8.get bn=some (.cells (rowW x) 44 false):=hO.p1;have hg6:h8.get b6=some (.cells [.map (some bm)] 133 false):=hO.has (ceI b6 [.map (some bm)] 133 false) (List.mem_cons_of_mem _ (List.mem_append_left _ (List.mem_cons_of_mem _ (List.mem_cons_of_mem _ (List.mem_append_right _ m4)))));have hWb:=hWeb h8 fun y hy=>hO.has y (List.mem_cons_of_mem _ (List.mem_append_left _ (List.mem_cons_of_mem _ (List.mem_cons_of_mem _ (List.mem_append_right _ hy)))));have hGl:G.2.length<=200:=by
   have:=congrArg List.length hok;rw[List.length_map] at this;have h1:(pre.flatMap (clF S)).length<=pre.length:=by
    clear hok hO hsp hpl this
    induction pre with
    | nil=>exact Nat.le_refl _
    | cons y pre ih =>
     rw[List.flatMap_cons,List.length_append,List.length_cons];have:(clF S y).length<=1:=by unfold clF;split <;> simp
     omega
   omega
  have hokn:∀G':Value×List (Value×Cls),G'.2.map Prod.snd=pre.flatMap (clF S)++clF S x->G'.2.map Prod.snd=(pre++[x]).flatMap (clF S):=fun G' e=>by
   rw[List.flatMap_append,List.flatMap_singleton];exact e
  obtain⟨v2,C⟩:=G;simp only at hok hGl;refine zy ?_;refine ZBT fun hW8=>?_;refine ZAI rfl rfl rfl rfl rfl Bod.h rfl rfl (ZMe (b:=x.b) hWb (ZRi hxs hx3) hne hnl) ?_;rintro v9 h9 ⟨hE9,hF9,hnil⟩;unfold clF at hokn;generalize ZA3 (nxtW S) x.a x.b (nodW S).length=P at *;have hE89:=hE8.trans hE9;have hO9:=hO.ext hE9;refine zy ?_
  by_cases hP:P=[]
  ·rw[if_pos hP] at hokn
   obtain rfl:=hnil.resolve_right (fun q=>q hP);refine ZAD rfl rfl rfl rfl (ZP3 Und.h rfl rfl) ?_;refine zy ?_;exact⟨rfl,(v2,C),hokn _ (by rw[List.append_nil];exact hok),hO9.tail,hE89⟩
  rw[if_neg hP] at hokn;have hPl:0<P.length:=List.length_pos_iff.2 hP;obtain⟨bp,sp,op,rfl,-⟩:=hF9.blk hPl;refine ZAD rfl rfl rfl rfl (ZPP Und.h rfl rfl) ?_;have hOp:=hO.newSl hW8 hE8.2.1 hE9 hF9;have hg2:h9.get b2=some (.cells [v2] 55 false):=hO9.has (ceI b2 [v2] 55 false) (List.mem_cons_of_mem _ (List.mem_append_left _ (List.mem_cons_of_mem _ List.mem_cons_self)));have hgn9:=hE9.get hgn;refine zy ?_;refine ZAQ hmix [0,0,2,0,14,30,63,127] [0,1,3] (some 2) [([4,5],(some 6)),([],(some 7)),([],none)] (by kernel_rfl) (by kernel_rfl) ?_;refine z_l ?_;refine z_r ?_;refine z_m ?_;refine ZAL [1] (by kernel_rfl) rfl (ZAA rfl) rfl nb (kF (dF (kF nF))) (ZCF (ZBI rfl rfl rfl rfl rfl Bod.h (ZMv x _) (fun h10 hE10 hw10=>?_)))
  have hO10:=(hOp.ext hE10).up3;have hE10':=hE89.trans hE10;have hg210:=hE10.get hg2;have hgn10:=hE10.get hgn9;refine z_b ?_;refine ZGG (nk:=.sl _ _) rfl rfl rfl rfl rfl (fun _ _ hs=>N_bs hs Und.h Tsz.h Zr.h rfl rfl rfl rfl rfl) ?_;have hEa:=Ext.add hw10 (.cells (rowC (.slice (some ⟨bp,0,sp⟩) P.length P.length,x.key,P)) 62 false);have hg2a:=hEa.get hg210;have hgna:=hEa.get hgn10;refine ZAL (h1:=(Heap.add h10 _)) [0,1,2,3,4,5] (by kernel_rfl) rfl (by refine t_m 3 ?_;refine t_l 0 ?_;exact ZAA rfl) rfl rfl (dF (dF (dF (dF nF)))) (ZCF (ZC8 (by':=48) (sz:=3) (k:=1) (n:=C.length) (l:=rowC (.slice (some ⟨bp,0,sp⟩) P.length P.length,x.key,P)) rfl hw (hE10'.trans hEa) rfl rfl rfl rfl Und.h inferInstance rfl rfl (hO10.ext hEa) ((ZAB.lit (h0:=h) (n:=1) (sz:=3) Heap.get_add_same rfl hE10'.2.1).src (dd:=.slice 62) Und.h (by intro k;simp)) rfl rfl (by omega) (by omega) (fun v12 h12 hO12 hE12 hw12=>?_)))
  have hg212:h12.get b2=some (.cells [v2] 55 false):=hO12.p4;have hgn12:h12.get bn=some (.cells (rowW x) 44 false):=hO12.p3;obtain⟨a12,e12,-⟩:=ZAB.is (show ZAB h h12 v12 62 3 _ _ from hO12.p1);subst e12;refine ZAL (h1:=h12) [0,1,2,3,4,5,6] (by kernel_rfl) rfl (ZAA rfl) rfl rfl nF (ZCF (ZOf rfl hw hE12 rfl Tsz.h rfl rfl hO12.up4 rfl rfl rfl (fun h13 hO13 hE13 hw13=>?_)));refine ZAW (ZAA rfl) rfl ?_;refine zy ?_;refine⟨rfl,(.slice a12 (C.length+1) (C.length+1),C++[(.slice (some ⟨bp,0,sp⟩) P.length P.length,x.key,P)]),hokn _ ?_,?_,hE13⟩
  ·simp only
   rw[List.map_append,hok];rfl
  ·have el:clI h (.slice a12 (C.length+1) (C.length+1)) (C++[(.slice (some ⟨bp,0,sp⟩) P.length P.length,x.key,P)])=slI h (.slice a12 (C.length+1) (C.length+1)) 62 3 (C.flatMap rowC++rowC (.slice (some ⟨bp,0,sp⟩) P.length P.length,x.key,P)) (C.length+1):=by
    unfold clI;rw[List.flatMap_append,List.length_append];rfl
   have h1:Own h h13 (ceI b2 [.slice a12 (C.length+1) (C.length+1)] 55 false::clI h (.slice a12 (C.length+1) (C.length+1)) (C++[(.slice (some ⟨bp,0,sp⟩) P.length P.length,x.key,P)])::cI h (.slice (some ⟨bp,0,sp⟩) P.length P.length,x.key,P)::ceI bn (rowW x) 44 false::((C.map (cI h)++T)++R)):=by
    rw[el];exact hO13
   have h2:=h1.sub (l':=ceI b2 [.slice a12 (C.length+1) (C.length+1)] 55 false::clI h (.slice a12 (C.length+1) (C.length+1)) (C++[(.slice (some ⟨bp,0,sp⟩) P.length P.length,x.key,P)])::cI h (.slice (some ⟨bp,0,sp⟩) P.length P.length,x.key,P)::((C.map (cI h)++T)++R)) (List.Sublist.cons_cons _ (List.Sublist.cons_cons _ (List.Sublist.cons_cons _ (List.Sublist.cons _ (List.Sublist.refl _)))));have h3:=h2.up2;unfold clX;simp only[List.map_append,List.map_cons,List.map_nil,List.append_assoc,List.cons_append,List.nil_append] at h3 ⊢;exact h3.perm (List.Perm.cons _ (List.Perm.cons _ List.perm_middle.symm))
 obtain⟨v2,C⟩:=G8;have hokC:C.map Prod.snd=clsL S S:=by rw[<-ZOx];exact hok8
 have hcol:Own h h8 (loI h7.nx .defd::ceI b2 [v2] 55 false::clI h v2 C::(C.map (cI h)++T)):=hO8'.perm (List.Perm.cons _ (List.Perm.swap _ _ _));clear hO8' hok8 hO9 hWeb;generalize h7.nx=r7 at hcol ⊢;have hg2:h8.get b2=some (.cells [v2] 55 false):=hcol.p2;have hcc:=hcol.up2;refine zy ?_;obtain⟨a2,e2,-⟩:=ZAB.is (show ZAB h h8 v2 62 3 (C.flatMap rowC) C.length from hcol.p3);subst e2;refine ZDn hw hE8 rfl Tsz.h rfl rfl hcc rfl rfl rfl fun h9 hW9 hO9 hE9=>?_;have hO10:Own h h9 ([r7].map (fun r=>loI r .defd)++(ceI b2 [.slice a2 C.length C.length] 55 false::clI h (.slice a2 C.length C.length) C::(C.map (cI h)++T))):=hO9.up2
 have hcl:=hO10.colls;have hOd:=hO10.del;have hgd:(delL h9 [r7]).get b2=some (.cells [.slice a2 C.length C.length] 55 false):=hOd.p1;obtain⟨a2',hv2,hrows⟩:=ZSm hOd.tail;cases hv2;rw[hokC] at hrows;have hlC:C.length=(clsL S S).length:=by rw[<-hokC,List.length_map]
 refine zy ?_;exact ZAG (ZI4 (vs:=[.slice a2 C.length C.length,i64 0]) hcl.nd hcl.defd (ZDc rfl (ZIR OneC.h (ZAb hgd rfl)) (ZMi rfl rfl)) ⟨.inr ⟨hc,a2,C.length,by rw[hlC];rfl,hrows⟩,hcl.ext0 hE9 hw⟩)
end Go.Dw
