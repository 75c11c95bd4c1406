/- SR4: reading a task of chapter 11 with its weights; how a reel is shortened. -/
import Derived.Test.YtfgeelpahicelaaGreatDoorUG17
import Derived.Test.YtfgeelpahicelaaGreatDoorUG18
set_option linter.unusedVariables false
set_option linter.unusedSimpArgs false
namespace Go.Dw
open Go Go.Dx Go.Proofs
set_option maxRecDepth 100000
section
variable {H:Type}{enc:TypeId×Value->H}{W:World}{cs:List Value}
theorem bytesPr:Tryz.prog.bytesOf 56=96:=by kernel_rfl
theorem rd_sctaskW (h:RdW enc Tryz.prog W 31 cs):∃v:ScT,cs.all (okv W.heap.size)=true/\ScTAt (ro W) (cs.map nz) v/\v.Fit/\v.prints.length*96<=140737488351232:=by
 obtain⟨t,ok,hT,hF⟩:=rd_sctask h.rd
 refine⟨t,ok,hT,hF,?_⟩
 have cS:Tryz.prog.cellsOf 31=9:=by kernel_rfl
 have h1:=(rd_struct Tryz.underlying31 h.rd).1
 have h2:=rdW_struct Tryz.underlying31 h
 rw[cS] at h1
 obtain⟨x0,x1,x2,x3,x4,x5,x6,x7,x8,rfl⟩:∃x0 x1 x2 x3 x4 x5 x6 x7 x8,cs=[x0,x1,x2,x3,x4,x5,x6,x7,x8]:=by
  match cs,h1 with
  | [x0,x1,x2,x3,x4,x5,x6,x7,x8],_=>exact⟨x0,x1,x2,x3,x4,x5,x6,x7,x8,rfl⟩
 have c5:Tryz.prog.cellsOf 26=1:=by kernel_rfl
 have f5:RdW enc Tryz.prog W 26 (([x0,x1,x2,x3,x4,x5,x6,x7,x8].drop 5).take (Tryz.prog.cellsOf 26)):=h2 5 _ rfl
 rw[c5] at f5
 have cP:Tryz.prog.cellsOf 56=7:=by kernel_rfl
 obtain⟨v,a,len,cap,e1,_,e3,_,hb,_⟩:=rdW_slice Tryz.underlying26 (by rw[cP];decide) f5
 rw[bytesPr] at hb
 simp at e1
 subst e1
 obtain⟨al,cl,at',ct,a1,c1,a2,c2,a3,c3,a4,c4,a5,c5,a6,c6,e,-⟩:=hT
 simp only[List.map_cons,List.map_nil,List.cons.injEq,and_true] at e
 have e4:=e.2.2.2.2.2.1
 rw[e3] at e4
 simp only[Value.slice.injEq] at e4
 rw[<-e4.2.1]
 exact hb
theorem rd_shortened (h:Rd enc Tryz.prog W 78 cs):∃(l:List Ttl)(al:Option Addr)(cl:Nat)(n:Int)(k:List Cut)(ac:Option Addr)(cc:Nat)(s:ScS)(sr:List Value),cs.all (okv W.heap.size)=true/\cs.map nz=.slice al l.length cl::i64 n::.slice ac k.length cc::sr/\RowsAt 3 TtlR (ro W) al l/\Len l/\(∀x∈l,x.Fit)/\I64 n/\RowsAt 2 CutR (ro W) ac k/\Len k/\(∀c∈k,c.Fit)/\ScSR (ro W) sr s/\s.Fit:=by
 have cS:Tryz.prog.cellsOf 78=9:=by kernel_rfl
 have c3:Tryz.prog.cellsOf 3=1:=by kernel_rfl
 have c8:Tryz.prog.cellsOf 58=1:=by kernel_rfl
 have c9:Tryz.prog.cellsOf 59=1:=by kernel_rfl
 have c6:Tryz.prog.cellsOf 42=6:=by kernel_rfl
 obtain⟨h1,h2⟩:=rd_struct Tryz.underlying78 h
 rw[cS] at h1
 obtain⟨x0,x1,x2,x3,x4,x5,x6,x7,x8,rfl⟩:∃x0 x1 x2 x3 x4 x5 x6 x7 x8,cs=[x0,x1,x2,x3,x4,x5,x6,x7,x8]:=by
  match cs,h1 with
  | [x0,x1,x2,x3,x4,x5,x6,x7,x8],_=>exact⟨x0,x1,x2,x3,x4,x5,x6,x7,x8,rfl⟩
 have f0:Rd enc Tryz.prog W 58 (([x0,x1,x2,x3,x4,x5,x6,x7,x8].drop 0).take (Tryz.prog.cellsOf 58)):=h2 0 _ rfl
 have f1:Rd enc Tryz.prog W 3 (([x0,x1,x2,x3,x4,x5,x6,x7,x8].drop 1).take (Tryz.prog.cellsOf 3)):=h2 1 _ rfl
 have f2:Rd enc Tryz.prog W 59 (([x0,x1,x2,x3,x4,x5,x6,x7,x8].drop 2).take (Tryz.prog.cellsOf 59)):=h2 2 _ rfl
 have f3:Rd enc Tryz.prog W 42 (([x0,x1,x2,x3,x4,x5,x6,x7,x8].drop 3).take (Tryz.prog.cellsOf 42)):=h2 3 _ rfl
 rw[c8] at f0
 rw[c3] at f1
 rw[c9] at f2
 rw[c6] at f3
 obtain⟨v0,a0,l0,cap0,e0,ok0,nz0,hI0,hL0,hF0⟩:=rd_titles f0
 obtain⟨n1,e1,l1⟩:=rd_int Tryz.underlying3 f1
 obtain⟨v2,a2,l2,cap2,e2,ok2,nz2,hI2,hL2,hF2⟩:=rd_rows (R:=CutR) (Fit:=Cut.Fit) Tryz.underlying59 (k:=2) (by kernel_rfl) (by decide) (fun row hr=>rd_cut hr) f2
 obtain⟨s,ok3,hs,hsF⟩:=rd_show f3
 simp at e0 e1 e2
 subst e0
 subst e1
 subst e2
 refine⟨l0,a0,cap0,n1,l2,a2,cap2,s,_,?_,?_,hI0,hL0,hF0,l1,hI2,hL2,hF2,hs,hsF⟩
 ·simp only[List.drop_succ_cons,List.drop_zero,List.take] at ok3
  simp only[List.all_cons,Bool.and_eq_true] at ok3 ⊢
  exact⟨ok0,rfl,ok2,ok3⟩
 ·simp only[List.map_cons,List.map_nil,nz0,nz2];rfl
end
end Go.Dw
