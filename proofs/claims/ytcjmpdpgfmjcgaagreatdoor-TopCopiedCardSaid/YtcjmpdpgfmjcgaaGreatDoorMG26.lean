/- EX: reading a task of decay. -/
import Derived.OpenShut
import Derived.Test.YtcjmpdpgfmjcgaaGreatDoorMG21
import Derived.Test.YtcjmpdpgfmjcgaaGreatDoorMG25
import Derived.Test.YtcjmpdpgfmjcgaaGreatDoorMG23
namespace Go.Dw
open Go Go.Dx Go.Proofs
set_option maxRecDepth 100000
theorem cells_dt:Tryz.prog.cellsOf 3=1/\Tryz.prog.cellsOf 45=1/\Tryz.prog.cellsOf 46=3/\Tryz.prog.cellsOf 48=8/\Tryz.prog.cellsOf 49=1/\Tryz.prog.cellsOf 51=2/\Tryz.prog.cellsOf 52=1/\Tryz.prog.cellsOf 54=13/\Tryz.prog.cellsOf 91=3/\Tryz.prog.cellsOf 138=4/\Tryz.prog.cellsOf 175=2:=by
 refine⟨?_,?_,?_,?_,?_,?_,?_,?_,?_,?_,?_⟩ <;> kernel_rfl
section
variable {H:Type}{enc:TypeId×Value->H}{W:World}{cs:List Value}
theorem rd_arr3 {P:Program}{t e:TypeId}{c0 c1 c2:Value}(ht:P.underlying t=some (.array 3 e))(he:P.cellsOf e=1)(h:Rd enc P W t [c0,c1,c2]):Rd enc P W e [c0]/\Rd enc P W e [c1]/\Rd enc P W e [c2]:=by
 obtain⟨m,x,hx⟩:=h
 obtain⟨xs,n,_,_,_,hl,hi⟩:=DataW.trod_array ht hx
 rw[he] at hi
 have g:∀i,i<3->∃y,DataW.trod enc P W 0 (fun _=>true) true n e (([c0,c1,c2].drop (i*1)).take 1)=some y:=fun i h3=>by
  have:=hi i h3
  rw[List.getElem?_eq_getElem (by omega)] at this
  exact⟨_,this⟩
 exact⟨⟨n,g 0 (by decide)⟩,⟨n,g 1 (by decide)⟩,⟨n,g 2 (by decide)⟩⟩
theorem rd_pt (h:Rd enc Tryz.prog W 175 cs):∃p:CPt,cs.all (okv W.heap.size)=true/\PtR (ro W) (cs.map nz) p/\(I64 p.at'/\I64 p.factor):=by
 obtain⟨c3,c45,c46,c48,c49,c51,c52,c54,c91,c138,c175⟩:=cells_dt
 obtain⟨h1,h2⟩:=rd_struct Tryz.underlying175 h
 rw[c175] at h1
 obtain⟨x0,x1,rfl⟩:∃x0 x1,cs=[x0,x1]:=by
  match cs,h1 with
  | [x0,x1],_=>exact⟨x0,x1,rfl⟩
 have f0:Rd enc Tryz.prog W 3 (([x0,x1].drop 0).take (Tryz.prog.cellsOf 3)):=h2 0 _ rfl
 have f1:Rd enc Tryz.prog W 3 (([x0,x1].drop 1).take (Tryz.prog.cellsOf 3)):=h2 1 _ rfl
 rw[c3] at f0 f1
 obtain⟨n0,e0,l0⟩:=rd_int Tryz.underlying3 f0
 obtain⟨n1,e1,l1⟩:=rd_int Tryz.underlying3 f1
 simp at e0 e1
 subst e0;subst e1
 exact⟨⟨n0,n1⟩,rfl,rfl,l0,l1⟩
theorem rd_sp (h:Rd enc Tryz.prog W 51 cs):∃s:Sp,cs=[i64 s.lo,i64 s.hi]/\I64 s.lo/\I64 s.hi:=by
 obtain⟨c3,c45,c46,c48,c49,c51,c52,c54,c91,c138,c175⟩:=cells_dt
 obtain⟨h1,h2⟩:=rd_struct Tryz.underlying51 h
 rw[c51] at h1
 obtain⟨x0,x1,rfl⟩:∃x0 x1,cs=[x0,x1]:=by
  match cs,h1 with
  | [x0,x1],_=>exact⟨x0,x1,rfl⟩
 have f0:Rd enc Tryz.prog W 3 (([x0,x1].drop 0).take (Tryz.prog.cellsOf 3)):=h2 0 _ rfl
 have f1:Rd enc Tryz.prog W 3 (([x0,x1].drop 1).take (Tryz.prog.cellsOf 3)):=h2 1 _ rfl
 rw[c3] at f0 f1
 obtain⟨n0,e0,l0⟩:=rd_int Tryz.underlying3 f0
 obtain⟨n1,e1,l1⟩:=rd_int Tryz.underlying3 f1
 simp at e0 e1
 subst e0;subst e1
 exact⟨⟨n0,n1⟩,rfl,l0,l1⟩
theorem rd_day (h:Rd enc Tryz.prog W 138 cs):∃d:DDay,cs.all (okv W.heap.size)=true/\DayR (ro W) (cs.map nz) d/\(I64 d.temp.lo/\I64 d.temp.hi/\I64 d.damp.lo/\I64 d.damp.hi):=by
 obtain⟨c3,c45,c46,c48,c49,c51,c52,c54,c91,c138,c175⟩:=cells_dt
 obtain⟨h1,h2⟩:=rd_struct Tryz.underlying138 h
 rw[c138] at h1
 obtain⟨x0,x1,x2,x3,rfl⟩:∃x0 x1 x2 x3,cs=[x0,x1,x2,x3]:=by
  match cs,h1 with
  | [x0,x1,x2,x3],_=>exact⟨x0,x1,x2,x3,rfl⟩
 have f0:Rd enc Tryz.prog W 51 (([x0,x1,x2,x3].drop 0).take (Tryz.prog.cellsOf 51)):=h2 0 _ rfl
 have f1:Rd enc Tryz.prog W 51 (([x0,x1,x2,x3].drop 2).take (Tryz.prog.cellsOf 51)):=h2 1 _ rfl
 rw[c51] at f0 f1
 obtain⟨s0,e0,l0,l0'⟩:=rd_sp f0
 obtain⟨s1,e1,l1,l1'⟩:=rd_sp f1
 simp at e0 e1
 obtain⟨rfl,rfl⟩:=e0
 obtain⟨rfl,rfl⟩:=e1
 exact⟨⟨s0,s1⟩,rfl,rfl,l0,l0',l1,l1'⟩
theorem rd_test (h:Rd enc Tryz.prog W 91 cs):∃x:DTest,cs.all (okv W.heap.size)=true/\TestR (ro W) (cs.map nz) x/\(I64 x.day/\I64 x.grade/\I64 x.error):=by
 obtain⟨c3,c45,c46,c48,c49,c51,c52,c54,c91,c138,c175⟩:=cells_dt
 obtain⟨h1,h2⟩:=rd_struct Tryz.underlying91 h
 rw[c91] at h1
 obtain⟨x0,x1,x2,rfl⟩:∃x0 x1 x2,cs=[x0,x1,x2]:=by
  match cs,h1 with
  | [x0,x1,x2],_=>exact⟨x0,x1,x2,rfl⟩
 have f0:Rd enc Tryz.prog W 3 (([x0,x1,x2].drop 0).take (Tryz.prog.cellsOf 3)):=h2 0 _ rfl
 have f1:Rd enc Tryz.prog W 3 (([x0,x1,x2].drop 1).take (Tryz.prog.cellsOf 3)):=h2 1 _ rfl
 have f2:Rd enc Tryz.prog W 3 (([x0,x1,x2].drop 2).take (Tryz.prog.cellsOf 3)):=h2 2 _ rfl
 rw[c3] at f0 f1 f2
 obtain⟨n0,e0,l0⟩:=rd_int Tryz.underlying3 f0
 obtain⟨n1,e1,l1⟩:=rd_int Tryz.underlying3 f1
 obtain⟨n2,e2,l2⟩:=rd_int Tryz.underlying3 f2
 simp at e0 e1 e2
 subst e0;subst e1;subst e2
 exact⟨⟨n0,n1,n2⟩,rfl,rfl,l0,l1,l2⟩
theorem rd_drule (h:Rd enc Tryz.prog W 48 cs):∃r:DRule,cs.length=8/\cs.all (okv W.heap.size)=true/\RuleAt (ro W) (cs.map nz) r/\r.Fit:=by
 obtain⟨c3,c45,c46,c48,c49,c51,c52,c54,c91,c138,c175⟩:=cells_dt
 obtain⟨h1,h2⟩:=rd_struct Tryz.underlying48 h
 rw[c48] at h1
 obtain⟨x0,x1,x2,x3,x4,x5,x6,x7,rfl⟩:∃x0 x1 x2 x3 x4 x5 x6 x7,cs=[x0,x1,x2,x3,x4,x5,x6,x7]:=by
  match cs,h1 with
  | [x0,x1,x2,x3,x4,x5,x6,x7],_=>exact⟨x0,x1,x2,x3,x4,x5,x6,x7,rfl⟩
 have f0:Rd enc Tryz.prog W 45 (([x0,x1,x2,x3,x4,x5,x6,x7].drop 0).take (Tryz.prog.cellsOf 45)):=h2 0 _ rfl
 have f1:Rd enc Tryz.prog W 45 (([x0,x1,x2,x3,x4,x5,x6,x7].drop 1).take (Tryz.prog.cellsOf 45)):=h2 1 _ rfl
 have f2:Rd enc Tryz.prog W 3 (([x0,x1,x2,x3,x4,x5,x6,x7].drop 2).take (Tryz.prog.cellsOf 3)):=h2 2 _ rfl
 have f3:Rd enc Tryz.prog W 3 (([x0,x1,x2,x3,x4,x5,x6,x7].drop 3).take (Tryz.prog.cellsOf 3)):=h2 3 _ rfl
 have f4:Rd enc Tryz.prog W 46 (([x0,x1,x2,x3,x4,x5,x6,x7].drop 4).take (Tryz.prog.cellsOf 46)):=h2 4 _ rfl
 have f5:Rd enc Tryz.prog W 3 (([x0,x1,x2,x3,x4,x5,x6,x7].drop 7).take (Tryz.prog.cellsOf 3)):=h2 5 _ rfl
 rw[c45] at f0 f1
 rw[c3] at f2 f3 f5
 rw[c46] at f4
 have f4:Rd enc Tryz.prog W 46 [x4,x5,x6]:=f4
 obtain⟨g0,g1,g2⟩:=rd_arr3 Tryz.underlying46 c3 f4
 obtain⟨v0,a0,l0,cap0,e0,ok0,nz0,hR0,hL0,hF0⟩:=rd_rows (R:=PtR) (Fit:=fun p=>I64 p.at'/\I64 p.factor) Tryz.underlying45 c175 (by decide) (fun row hr=>rd_pt hr) f0
 obtain⟨v1,a1,l1,cap1,e1,ok1,nz1,hR1,hL1,hF1⟩:=rd_rows (R:=PtR) (Fit:=fun p=>I64 p.at'/\I64 p.factor) Tryz.underlying45 c175 (by decide) (fun row hr=>rd_pt hr) f1
 obtain⟨n2,e2,l2⟩:=rd_int Tryz.underlying3 f2
 obtain⟨n3,e3,l3⟩:=rd_int Tryz.underlying3 f3
 obtain⟨m0,e4,k0⟩:=rd_int Tryz.underlying3 g0
 obtain⟨m1,e5,k1⟩:=rd_int Tryz.underlying3 g1
 obtain⟨m2,e6,k2⟩:=rd_int Tryz.underlying3 g2
 obtain⟨n5,e7,l5⟩:=rd_int Tryz.underlying3 f5
 simp at e0 e1 e2 e3 e4 e5 e6 e7
 subst e0;subst e1;subst e2;subst e3;subst e4;subst e5;subst e6;subst e7
 refine⟨⟨l0,l1,n2,n3,[m0,m1,m2],n5⟩,rfl,by simp[ok0,ok1];exact⟨rfl,rfl,rfl,rfl,rfl,rfl⟩,⟨a0,cap0,a1,cap1,m0,m1,m2,rfl,?_,hR0,hR1⟩,⟨hL0,hF0,hL1,hF1,l2,l3,fun n hn=>?_,l5⟩⟩
 ·simp only[List.map_cons,List.map_nil,nz0,nz1];rfl
 ·simp only[List.mem_cons,List.not_mem_nil,or_false] at hn
  rcases hn with rfl|rfl|rfl <;> assumption
theorem rd_dtask (h:Rd enc Tryz.prog W 54 cs):∃t:DTask,cs.all (okv W.heap.size)=true/\DTaskAt (ro W) (cs.map nz) t/\t.Fit:=by
 obtain⟨c3,c45,c46,c48,c49,c51,c52,c54,c91,c138,c175⟩:=cells_dt
 obtain⟨h1,h2⟩:=rd_struct Tryz.underlying54 h
 rw[c54] at h1
 obtain⟨x0,x1,x2,x3,x4,x5,x6,x7,x8,x9,y0,y1,y2,rfl⟩:∃x0 x1 x2 x3 x4 x5 x6 x7 x8 x9 y0 y1 y2,cs=[x0,x1,x2,x3,x4,x5,x6,x7,x8,x9,y0,y1,y2]:=by
  match cs,h1 with
  | [x0,x1,x2,x3,x4,x5,x6,x7,x8,x9,y0,y1,y2],_=>exact⟨x0,x1,x2,x3,x4,x5,x6,x7,x8,x9,y0,y1,y2,rfl⟩
 have f0:Rd enc Tryz.prog W 48 (([x0,x1,x2,x3,x4,x5,x6,x7,x8,x9,y0,y1,y2].drop 0).take (Tryz.prog.cellsOf 48)):=h2 0 _ rfl
 have f1:Rd enc Tryz.prog W 3 (([x0,x1,x2,x3,x4,x5,x6,x7,x8,x9,y0,y1,y2].drop 8).take (Tryz.prog.cellsOf 3)):=h2 1 _ rfl
 have f2:Rd enc Tryz.prog W 49 (([x0,x1,x2,x3,x4,x5,x6,x7,x8,x9,y0,y1,y2].drop 9).take (Tryz.prog.cellsOf 49)):=h2 2 _ rfl
 have f3:Rd enc Tryz.prog W 51 (([x0,x1,x2,x3,x4,x5,x6,x7,x8,x9,y0,y1,y2].drop 10).take (Tryz.prog.cellsOf 51)):=h2 3 _ rfl
 have f4:Rd enc Tryz.prog W 52 (([x0,x1,x2,x3,x4,x5,x6,x7,x8,x9,y0,y1,y2].drop 12).take (Tryz.prog.cellsOf 52)):=h2 4 _ rfl
 rw[c48] at f0
 rw[c3] at f1
 rw[c49] at f2
 rw[c51] at f3
 rw[c52] at f4
 have f0:Rd enc Tryz.prog W 48 [x0,x1,x2,x3,x4,x5,x6,x7]:=f0
 obtain⟨r,_,okr,hr,hrf⟩:=rd_drule f0
 obtain⟨n1,e1,l1⟩:=rd_int Tryz.underlying3 f1
 obtain⟨v2,a2,l2,cap2,e2,ok2,nz2,hR2,hL2,hF2⟩:=rd_rows (R:=DayR) (Fit:=fun d=>I64 d.temp.lo/\I64 d.temp.hi/\I64 d.damp.lo/\I64 d.damp.hi) Tryz.underlying49 c138 (by decide) (fun row hr=>rd_day hr) f2
 obtain⟨s,e3,l3,l3'⟩:=rd_sp f3
 obtain⟨v4,a4,l4,cap4,e4,ok4,nz4,hR4,hL4,hF4⟩:=rd_rows (R:=TestR) (Fit:=fun x=>I64 x.day/\I64 x.grade/\I64 x.error) Tryz.underlying52 c91 (by decide) (fun row hr=>rd_test hr) f4
 simp at e1 e2 e3 e4
 obtain⟨rfl,rfl⟩:=e3
 subst e1;subst e2;subst e4
 simp only[List.all_cons,List.all_nil,Bool.and_true,Bool.and_eq_true] at okr
 obtain⟨o0,o1,o2,o3,o4,o5,o6,o7⟩:=okr
 refine⟨⟨r,n1,l2,s,l4⟩,by simp[o0,o1,o2,o3,o4,o5,o6,o7,ok2,ok4];exact⟨rfl,rfl,rfl⟩,⟨_,a2,cap2,a4,cap4,hr,?_,hR2,hR4⟩,⟨hrf,l1,hL2,hF2,⟨l3,l3'⟩,hL4,hF4⟩⟩
 simp only[List.map_cons,List.map_nil,nz2,nz4];rfl
end
end Go.Dw
