/- SQ: the laws of ScreenCut, with no program in sight. -/
import Derived.OpenShut
import Derived.Test.YtfgeelpahicelaaGreatDoorVG15
import Derived.Test.YtfgeelpahicelaaGreatDoorVG5
import Derived.Test.YtfgeelpahicelaaGreatDoorVG2
set_option linter.unusedVariables false
set_option linter.unusedSimpArgs false
namespace Go.Dw
open Go Go.Dx Go.Proofs
theorem titlesGo_zero:∀{l:List Ttl}{bef:Int},(∀x∈l,bef<x.a/\0<=x.a/\x.a<=x.b/\x.b<=199999/\textB x.text=true)->l.Pairwise (fun x y=>x.b<y.a)->titlesGo bef l=0
 | [],_,_,_=>rfl
 | x::l,bef,h,hp=>by
  obtain⟨h1,h2,h3,h4,h5⟩:=h x List.mem_cons_self
  obtain⟨hp1,hp2⟩:=List.pairwise_cons.1 hp
  rw[titlesGo_on (by omega) (by omega) h5]
  exact titlesGo_zero (fun y hy=>⟨hp1 y hy,(h y (List.mem_cons_of_mem _ hy)).2⟩) hp2
theorem titles_of {l:List Ttl}(h40:l.length<=40)(h:∀x∈l,0<=x.a/\x.a<=x.b/\x.b<=199999/\textB x.text=true)(hp:l.Pairwise fun x y=>x.b<y.a):titlesErr l=0:=by
 rw[titlesErr_go (by omega)]
 exact titlesGo_zero (fun x hx=>⟨by have:=h x hx;omega,h x hx⟩) hp
theorem retime1_val {cs:List Cut}{x y:Ttl}(h:retime1 cs x=some y):y.a=(cntC cs x.a.toNat:Nat)/\y.b=((cntC cs (x.b.toNat+1):Nat):Int)-1/\y.text=x.text/\cntC cs x.a.toNat<cntC cs (x.b.toNat+1):=by
 unfold retime1 at h
 split at h
 ·rename_i h1
  cases h
  exact⟨rfl,rfl,rfl,h1⟩
 ·cases h
theorem cntC_le (cs:List Cut)(i:Nat):cntC cs i<=i:=Nat.le_trans (List.length_filter_le _ _) (by rw[List.length_range];exact Nat.le_refl _)
theorem retime_each {cs:List Cut}{l:List Ttl}{N:Nat}(hl:∀x∈l,0<=x.a/\x.a<=x.b)(hN:∀x∈l,x.b<N):∀y∈retimeS cs l,0<=y.a/\y.a<=y.b/\y.b<(cntC cs N:Nat)/\∃x∈l,y.text=x.text:=by
 intro y hy
 obtain⟨x,hx,h1⟩:=List.mem_filterMap.1 hy
 obtain⟨e1,e2,e3,e4⟩:=retime1_val h1
 have:=hl x hx
 have h3:=hN x hx
 have:=cntC_mono cs (show x.b.toNat+1<=N by omega)
 exact⟨by omega,by omega,by omega,x,hx,e3⟩
theorem retime_titles {cs:List Cut}{l:List Ttl}{N:Nat}(h:titlesErr l=0)(hN:∀x∈l,x.b<N)(h2:N<=200000):titlesErr (retimeS cs l)=0:=by
 obtain⟨h40,hl,hp⟩:=titles_each h
 have he:=retime_each (cs:=cs) (N:=N) (fun x hx=>⟨(hl x hx).1,(hl x hx).2.1⟩) hN
 have hc:=cntC_le cs N
 refine titles_of (Nat.le_trans (List.length_filterMap_le _ _) h40) (fun y hy=>?_) ?_
 ·obtain⟨g1,g2,g3,x,hx,g4⟩:=he y hy
  exact⟨g1,g2,by omega,by rw[g4];exact (hl x hx).2.2.2⟩
 ·refine List.Pairwise.filterMap (retime1 cs) (S:=fun x y=>x.b<y.a) ?_ (hp.imp_of_mem (R:=fun x y=>x.b<y.a) (S:=fun x y=>x.b<y.a/\0<=x.b) fun {x y} hx _ hxy=>⟨hxy,by have:=hl x hx;omega⟩)
  intro x x' hxx y hy y' hy'
  obtain⟨e1,e2,-,-⟩:=retime1_val hy
  obtain⟨f1,f2,-,-⟩:=retime1_val hy'
  have:=cntC_mono cs (show x.b.toNat+1<=x'.a.toNat by omega)
  omega
theorem unread_lt (l:List Ttl)(speed rate:Int):(unreadS l speed rate).Pairwise (· < ·):=List.Pairwise.filter _ List.pairwise_lt_range
end Go.Dw
/- SR: reading a task of chapter 11. -/
namespace Go.Dw
open Go Go.Dx Go.Proofs
set_option maxRecDepth 100000
section
variable {H:Type}{enc:TypeId×Value->H}{W:World}{cs:List Value}
end
end Go.Dw
/- SR2: reading numbers of one byte, lists of shows, lists that are cut. -/
namespace Go.Dw
open Go Go.Dx Go.Proofs
set_option maxRecDepth 100000
section
variable {P:Program}{H:Type}{enc:TypeId×Value->H}{W:World}{cs:List Value}{t e:TypeId}
theorem rd_u8 (ht:P.underlying t=some (.int .u8))(h:Rd enc P W t cs):∃n,cs=[.int .u8 n]/\0<=n/\n<256:=by
 obtain⟨m,x,hx⟩:=h
 obtain⟨n,h1,_,h3⟩:=DataW.trod_int ht hx
 refine⟨n,h1,?_⟩
 simp[Lit.wf] at h3
 have h4:IntKind.u8.min=0:=by decide
 have h5:IntKind.u8.max=255:=by decide
 omega
end
end Go.Dw
/- SR3: reading subtitles, cuts, a print's frames with a speed and a rate. -/
namespace Go.Dw
open Go Go.Dx Go.Proofs
set_option maxRecDepth 100000
section
variable {H:Type}{enc:TypeId×Value->H}{W:World}{cs:List Value}
theorem rd_title (h:Rd enc Tryz.prog W 75 cs):∃x:Ttl,cs.all (okv W.heap.size)=true/\TtlR (ro W) (cs.map nz) x/\x.Fit:=by
 have cS:Tryz.prog.cellsOf 75=3:=by kernel_rfl
 have c3:Tryz.prog.cellsOf 3=1:=by kernel_rfl
 have c9:Tryz.prog.cellsOf 9=1:=by kernel_rfl
 obtain⟨h1,h2⟩:=rd_struct Tryz.underlying75 h
 rw[cS] at h1
 obtain⟨x0,x1,x2,rfl⟩:∃x0 x1 x2,cs=[x0,x1,x2]:=by
  match cs,h1 with
  | [x0,x1,x2],_=>exact⟨x0,x1,x2,rfl⟩
 have f0:Rd enc Tryz.prog W 3 (([x0,x1,x2].drop 0).take (Tryz.prog.cellsOf 3)):=h2 0 _ rfl
 have f1:Rd enc Tryz.prog W 3 (([x0,x1,x2].drop 1).take (Tryz.prog.cellsOf 3)):=h2 1 _ rfl
 have f2:Rd enc Tryz.prog W 9 (([x0,x1,x2].drop 2).take (Tryz.prog.cellsOf 9)):=h2 2 _ rfl
 rw[c3] at f0 f1
 rw[c9] at f2
 obtain⟨n0,e0,l0⟩:=rd_int Tryz.underlying3 f0
 obtain⟨n1,e1,l1⟩:=rd_int Tryz.underlying3 f1
 obtain⟨n2,e2,l2⟩:=rd_string Tryz.underlying9 f2
 simp at e0 e1 e2
 subst e0
 subst e1
 subst e2
 exact⟨⟨n0,n1,n2⟩,rfl,rfl,⟨l0,l1,l2⟩⟩
theorem rd_titles (h:Rd enc Tryz.prog W 58 cs):∃v a l cap,cs=[v]/\okv W.heap.size v=true/\nz v=.slice a l.length cap/\RowsAt 3 TtlR (ro W) a l/\Len l/\∀s∈l,s.Fit :=
 rd_rows (R:=TtlR) (Fit:=Ttl.Fit) Tryz.underlying58 (k:=3) (by kernel_rfl) (by decide) (fun row hr=>rd_title hr) h
theorem rd_cut (h:Rd enc Tryz.prog W 151 cs):∃x:Cut,cs.all (okv W.heap.size)=true/\CutR (ro W) (cs.map nz) x/\x.Fit:=by
 have cS:Tryz.prog.cellsOf 151=2:=by kernel_rfl
 have c3:Tryz.prog.cellsOf 3=1:=by kernel_rfl
 obtain⟨h1,h2⟩:=rd_struct Tryz.underlying151 h
 rw[cS] at h1
 obtain⟨x0,x1,rfl⟩:∃x0 x1,cs=[x0,x1]:=by
  match cs,h1 with
  | [x0,x1],_=>exact⟨x0,x1,rfl⟩
 have f0:Rd enc Tryz.prog W 3 (([x0,x1].drop 0).take (Tryz.prog.cellsOf 3)):=h2 0 _ rfl
 have f1:Rd enc Tryz.prog W 3 (([x0,x1].drop 1).take (Tryz.prog.cellsOf 3)):=h2 1 _ rfl
 rw[c3] at f0 f1
 obtain⟨n0,e0,l0⟩:=rd_int Tryz.underlying3 f0
 obtain⟨n1,e1,l1⟩:=rd_int Tryz.underlying3 f1
 simp at e0 e1
 subst e0
 subst e1
 exact⟨⟨n0,n1⟩,rfl,rfl,⟨l0,l1⟩⟩
theorem rd_read (h:Rd enc Tryz.prog W 61 cs):∃(n speed rate:Int)(l:List Cut)(a:Option Addr)(cap:Nat),cs.all (okv W.heap.size)=true/\cs.map nz=[i64 n,i64 speed,i64 rate,.slice a l.length cap]/\I64 n/\I64 speed/\I64 rate/\RowsAt 2 CutR (ro W) a l/\Len l/\∀c∈l,c.Fit:=by
 have cS:Tryz.prog.cellsOf 61=4:=by kernel_rfl
 have c3:Tryz.prog.cellsOf 3=1:=by kernel_rfl
 have c9:Tryz.prog.cellsOf 59=1:=by kernel_rfl
 obtain⟨h1,h2⟩:=rd_struct Tryz.underlying61 h
 rw[cS] at h1
 obtain⟨x0,x1,x2,x3,rfl⟩:∃x0 x1 x2 x3,cs=[x0,x1,x2,x3]:=by
  match cs,h1 with
  | [x0,x1,x2,x3],_=>exact⟨x0,x1,x2,x3,rfl⟩
 have f0:Rd enc Tryz.prog W 3 (([x0,x1,x2,x3].drop 0).take (Tryz.prog.cellsOf 3)):=h2 0 _ rfl
 have f1:Rd enc Tryz.prog W 3 (([x0,x1,x2,x3].drop 1).take (Tryz.prog.cellsOf 3)):=h2 1 _ rfl
 have f2:Rd enc Tryz.prog W 3 (([x0,x1,x2,x3].drop 2).take (Tryz.prog.cellsOf 3)):=h2 2 _ rfl
 have f3:Rd enc Tryz.prog W 59 (([x0,x1,x2,x3].drop 3).take (Tryz.prog.cellsOf 59)):=h2 3 _ rfl
 rw[c3] at f0 f1 f2
 rw[c9] at f3
 obtain⟨n0,e0,l0⟩:=rd_int Tryz.underlying3 f0
 obtain⟨n1,e1,l1⟩:=rd_int Tryz.underlying3 f1
 obtain⟨n2,e2,l2⟩:=rd_int Tryz.underlying3 f2
 obtain⟨v3,a3,l3,cap3,e3,ok3,nz3,hI3,hL3,hF3⟩:=rd_rows (R:=CutR) (Fit:=Cut.Fit) Tryz.underlying59 (k:=2) (by kernel_rfl) (by decide) (fun row hr=>rd_cut hr) f3
 simp at e0 e1 e2 e3
 subst e0
 subst e1
 subst e2
 subst e3
 refine⟨n0,n1,n2,l3,a3,cap3,?_,?_,l0,l1,l2,hI3,hL3,hF3⟩
 ·simp[ok3]
  try (repeat' constructor)
 ·simp only[List.map_cons,List.map_nil,nz3];rfl
end
end Go.Dw
/- SR4: reading a task of chapter 11 with its weights; how a reel is shortened. -/
namespace Go.Dw
open Go Go.Dx Go.Proofs
set_option maxRecDepth 100000
section
variable {H:Type}{enc:TypeId×Value->H}{W:World}{cs:List Value}
end
end Go.Dw
/- SR5: reading two bytes. -/
namespace Go.Dw
open Go Go.Dx Go.Proofs
set_option maxRecDepth 100000
section
variable {H:Type}{enc:TypeId×Value->H}{W:World}{cs:List Value}
theorem rd_two (h:Rd enc Tryz.prog W 69 cs):∃a b:Int,cs=[.int .u8 a,.int .u8 b]/\(0<=a/\a<256)/\0<=b/\b<256:=by
 obtain⟨m,x,hx⟩:=h
 have c5:Tryz.prog.cellsOf 5=1:=by kernel_rfl
 have c69:Tryz.prog.cellsOf 69=2:=by kernel_rfl
 obtain⟨ys,n,q1,q2,q3,q4,q5⟩:=DataW.trod_array Tryz.underlying69 hx
 rw[c69] at q3
 rw[c5] at q5
 obtain⟨x0,x1,rfl⟩:∃x0 x1,cs=[x0,x1]:=by
  match cs,q3 with
  | [x0,x1],_=>exact⟨x0,x1,rfl⟩
 have hy:∀i,i<2->∃y,ys[i]?=some y:=fun i hi=>⟨ys[i]'(by omega),List.getElem?_eq_getElem _⟩
 obtain⟨y0,hy0⟩:=hy 0 (by decide)
 obtain⟨y1,hy1⟩:=hy 1 (by decide)
 have f0:Rd enc Tryz.prog W 5 [x0]:=⟨n,y0,(q5 0 (by decide)).trans hy0⟩
 have f1:Rd enc Tryz.prog W 5 [x1]:=⟨n,y1,(q5 1 (by decide)).trans hy1⟩
 obtain⟨a,ea,ha⟩:=rd_u8 Tryz.underlying5 f0
 obtain⟨b,eb,hb⟩:=rd_u8 Tryz.underlying5 f1
 simp only[List.cons.injEq,and_true] at ea eb
 subst ea
 subst eb
 exact⟨a,b,rfl,ha,hb⟩
end
end Go.Dw
