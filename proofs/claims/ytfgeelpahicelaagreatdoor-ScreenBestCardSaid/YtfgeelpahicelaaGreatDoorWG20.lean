/- SR3: reading subtitles, cuts, a print's frames with a speed and a rate. -/
import Derived.OpenShut
import Derived.Test.YtfgeelpahicelaaGreatDoorWG15
import Derived.Test.YtfgeelpahicelaaGreatDoorWG19
import Derived.Test.YtfgeelpahicelaaGreatDoorWG12
import Derived.Test.YtfgeelpahicelaaGreatDoorWG14
import Derived.Test.YtfgeelpahicelaaGreatDoorWG13
set_option linter.unusedVariables false
set_option linter.unusedSimpArgs false
namespace Go.Dw
open Go Go.Dx Go.Proofs
set_option maxRecDepth 100000
section
variable {H:Type}{enc:TypeId×Value->H}{W:World}{cs:List Value}
end
end Go.Dw
/- SR6: reading prices, a venue with prices, an order of shows. -/
namespace Go.Dw
open Go Go.Dx Go.Proofs
set_option maxRecDepth 100000
section
variable {H:Type}{enc:TypeId×Value->H}{W:World}{cs:List Value}
theorem rd_price (h:Rd enc Tryz.prog W 110 cs):∃x:Int×Int,cs.all (okv W.heap.size)=true/\PrR (ro W) (cs.map nz) x/\(I64 x.1/\I64 x.2):=by
 have cS:Tryz.prog.cellsOf 110=2:=by kernel_rfl
 have c3:Tryz.prog.cellsOf 3=1:=by kernel_rfl
 obtain⟨h1,h2⟩:=rd_struct Tryz.underlying110 h
 rw[cS] at h1
 obtain⟨x0,x1,rfl⟩:∃x0 x1,cs=[x0,x1]:=by
  match cs,h1 with
  | [x0,x1],_=>exact⟨x0,x1,rfl⟩
 have f0:Rd enc Tryz.prog W 3 (([x0,x1].drop 0).take (Tryz.prog.cellsOf 3)):=h2 0 _ rfl
 have f1:Rd enc Tryz.prog W 3 (([x0,x1].drop 1).take (Tryz.prog.cellsOf 3)):=h2 1 _ rfl
 rw[c3] at f0 f1
 obtain⟨n0,e0,l0⟩:=rd_int Tryz.underlying3 f0
 obtain⟨n1,e1,l1⟩:=rd_int Tryz.underlying3 f1
 simp at e0 e1
 subst e0
 subst e1
 exact⟨⟨n0,n1⟩,rfl,rfl,⟨l0,l1⟩⟩
theorem rd_priced (h:Rd enc Tryz.prog W 95 cs):∃(v:Int)(l:List (Int×Int))(a:Option Addr)(cap:Nat),cs.all (okv W.heap.size)=true/\cs.map nz=[i64 v,.slice a l.length cap]/\I64 v/\RowsAt 2 PrR (ro W) a l/\Len l:=by
 have cS:Tryz.prog.cellsOf 95=2:=by kernel_rfl
 have c3:Tryz.prog.cellsOf 3=1:=by kernel_rfl
 have c9:Tryz.prog.cellsOf 93=1:=by kernel_rfl
 obtain⟨h1,h2⟩:=rd_struct Tryz.underlying95 h
 rw[cS] at h1
 obtain⟨x0,x1,rfl⟩:∃x0 x1,cs=[x0,x1]:=by
  match cs,h1 with
  | [x0,x1],_=>exact⟨x0,x1,rfl⟩
 have f0:Rd enc Tryz.prog W 3 (([x0,x1].drop 0).take (Tryz.prog.cellsOf 3)):=h2 0 _ rfl
 have f1:Rd enc Tryz.prog W 93 (([x0,x1].drop 1).take (Tryz.prog.cellsOf 93)):=h2 1 _ rfl
 rw[c3] at f0
 rw[c9] at f1
 obtain⟨n0,e0,l0⟩:=rd_int Tryz.underlying3 f0
 obtain⟨v1,a1,l1,cap1,e1,ok1,nz1,hI1,hL1,-⟩:=rd_rows (R:=PrR) (Fit:=fun x=>I64 x.1/\I64 x.2) Tryz.underlying93 (k:=2) (by kernel_rfl) (by decide) (fun row hr=>rd_price hr) f1
 simp at e0 e1
 subst e0
 subst e1
 refine⟨n0,l1,a1,cap1,?_,?_,l0,hI1,hL1⟩
 ·simp[ok1]
  rfl
 ·simp[nz1]
  rfl
end
end Go.Dw
/- SR4: reading a task of chapter 11 with its weights; how a reel is shortened. -/
namespace Go.Dw
open Go Go.Dx Go.Proofs
set_option maxRecDepth 100000
section
variable {H:Type}{enc:TypeId×Value->H}{W:World}{cs:List Value}
end
end Go.Dw
/- SR5: reading two bytes. -/
namespace Go.Dw
open Go Go.Dx Go.Proofs
set_option maxRecDepth 100000
section
variable {H:Type}{enc:TypeId×Value->H}{W:World}{cs:List Value}
end
end Go.Dw
/- SR7: reading a venue with prices and an order of shows. -/
namespace Go.Dw
open Go Go.Dx Go.Proofs
set_option maxRecDepth 100000
section
variable {H:Type}{enc:TypeId×Value->H}{W:World}{cs:List Value}
theorem rd_u8r (h:Rd enc Tryz.prog W 5 cs):∃z:Int,cs.all (okv W.heap.size)=true/\U8R (ro W) (cs.map nz) z/\(0<=z/\z<256):=by
 obtain⟨a,ea,ha⟩:=rd_u8 Tryz.underlying5 h
 subst ea
 exact⟨a,rfl,rfl,ha⟩
theorem rd_tried (h:Rd enc Tryz.prog W 103 cs):∃(v:Int)(l:List (Int×Int))(a:Option Addr)(cap:Nat)(o:List Int)(ao:Option Addr)(co:Nat),cs.all (okv W.heap.size)=true/\cs.map nz=[i64 v,.slice a l.length cap,.slice ao o.length co]/\I64 v/\RowsAt 2 PrR (ro W) a l/\Len l/\RowsAt 1 U8R (ro W) ao o/\Len o/\∀z∈o,0<=z/\z<256:=by
 have cS:Tryz.prog.cellsOf 103=3:=by kernel_rfl
 have c3:Tryz.prog.cellsOf 95=2:=by kernel_rfl
 have c9:Tryz.prog.cellsOf 101=1:=by kernel_rfl
 obtain⟨h1,h2⟩:=rd_struct Tryz.underlying103 h
 rw[cS] at h1
 obtain⟨x0,x1,x2,rfl⟩:∃x0 x1 x2,cs=[x0,x1,x2]:=by
  match cs,h1 with
  | [x0,x1,x2],_=>exact⟨x0,x1,x2,rfl⟩
 have f0:Rd enc Tryz.prog W 95 (([x0,x1,x2].drop 0).take (Tryz.prog.cellsOf 95)):=h2 0 _ rfl
 have f1:Rd enc Tryz.prog W 101 (([x0,x1,x2].drop 2).take (Tryz.prog.cellsOf 101)):=h2 1 _ rfl
 rw[c3] at f0
 rw[c9] at f1
 obtain⟨v,l,a,cap,ok0,nz0,hv,hQ,hL⟩:=rd_priced f0
 obtain⟨v1,a1,l1,cap1,e1,ok1,nz1,hI1,hL1,hF1⟩:=rd_rows (R:=U8R) (Fit:=fun z=>0<=z/\z<256) Tryz.underlying101 (k:=1) (by kernel_rfl) (by decide) (fun row hr=>rd_u8r hr) f1
 have e1':x2=v1:=by simpa using e1
 subst e1'
 have ok0':[x0,x1].all (okv W.heap.size)=true:=ok0
 have nz0':[x0,x1].map nz=[i64 v,.slice a l.length cap]:=nz0
 simp only[List.map_cons,List.map_nil,List.cons.injEq,and_true] at nz0'
 simp only[List.all_cons,List.all_nil,Bool.and_true,Bool.and_eq_true] at ok0'
 refine⟨v,l,a,cap,l1,a1,cap1,?_,?_,hv,hQ,hL,hI1,hL1,hF1⟩
 ·simp[ok0'.1,ok0'.2,ok1]
 ·simp[nz0'.1,nz0'.2,nz1]
end
end Go.Dw
