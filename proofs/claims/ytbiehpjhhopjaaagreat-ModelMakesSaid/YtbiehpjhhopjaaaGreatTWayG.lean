/-
 way.followed,walked.
-/
import Derived.Test.YtbiehpjhhopjaaaGreatTConcat
set_option linter.unusedVariables false
set_option linter.unusedSimpArgs false
set_option maxRecDepth 100000
set_option maxHeartbeats 16000000
namespace Go.Proofs.YtbiehpjhhopjaaaGreat
open Go.RowKit Go.Sort
def sgV (x:Sg):Value:= .agg #[x.id,x.sec,x.en]
def sgC (x:Sg):Array Value:=#[x.id,x.sec,x.en]
def zm5 (w:World) (p:Pl) (r:Rt) (e:Ending) (w':World):Prop:=
 jb w w'∧
 (((zcg p r).lost=true∧e= .returned (.tuple #[.agg #[.slice none 0 0,.slice none 0 0,.slice none 0 0,.int .i64 0],.slice none 0 0,.int .i64 90]))∨
  ((zcg p r).lost=false∧ ∃vp vo va vx,e= .returned (.tuple #[.agg #[vp,vo,va,.int .i64 (zao p r).near],vx,.int .i64 0])∧
    IntOwn w' w.heap.size vp r.A∧IntOwn w' w.heap.size vo r.O∧AskOwn w' w.heap.size va (zao p r).asks∧JnOwn w' w.heap.size vx (zbk p r)))
structure R1 (N:Nat) (w0:World) (PV:Value) (B:Nat) (e x:Int) (E X:Sg) (f0 f1 f2 f3 f4 f5 f6 f7 f8 f9 f10 f11:Bool) (s7 s8 s17 s18 s19 s20 s21 s22 s23 s24:Value) (W:World):Prop where
 old:Old N w0 W
 h0:f0=true→s17=PV
 h1:f1=true→s18= .pointer (some ⟨B,1,none⟩)
 h2:f2=true→s19= .int .i64 e
 h3:f3=true→s20=sgV E
 h4:f4=true→s21=PV
 h5:f5=true→s22= .pointer (some ⟨B,2,none⟩)
 h6:f6=true→s23= .int .i64 x
 h7:f7=true→s24=sgV X
 h8:f8=true→ ∃g,s7= .pointer (some ⟨g,0,none⟩)∧N≤g∧jk W g (if f10 then sgC E else sgC zSg) 145
 h9:f9=true→ ∃g,s8= .pointer (some ⟨g,0,none⟩)∧N≤g∧jk W g (if f11 then sgC X else sgC zSg) 145
 h10:f8=true→f9=true→s7≠s8
 h11:f10=true→f8=true
 h12:f11=true→f9=true
theorem R1.below {N:Nat}{w0:World}{PV:Value}{B:Nat}{e x:Int}{E X:Sg}{f0 f1 f2 f3 f4 f5 f6 f7 f8 f9 f10 f11:Bool}{s7 s8 s17 s18 s19 s20 s21 s22 s23 s24:Value}{W W':World}(h:R1 N w0 PV B e x E X f0 f1 f2 f3 f4 f5 f6 f7 f8 f9 f10 f11 s7 s8 s17 s18 s19 s20 s21 s22 s23 s24 W) (hb:jb W W'):R1 N w0 PV B e x E X f0 f1 f2 f3 f4 f5 f6 f7 f8 f9 f10 f11 s7 s8 s17 s18 s19 s20 s21 s22 s23 s24 W':=
 ⟨h.old.below hb,h.h0,h.h1,h.h2,h.h3,h.h4,h.h5,h.h6,h.h7,fun k=>by
  obtain⟨g,e1,e2,e3⟩:=h.h8 k;exact⟨g,e1,e2,(hb.block g (zad e3)).trans e3⟩,fun k=>by
  obtain⟨g,e1,e2,e3⟩:=h.h9 k
  exact⟨g,e1,e2,(hb.block g (zad e3)).trans e3⟩,h.h10,h.h11,h.h12⟩
theorem Off.own {g:Nat}{W W':World}{base:Nat}{e:TypeId}{sz:Nat}{v:Value}{n:Nat}{xs:List Value}(h:W.ownsRow base e sz v n xs) (ho:Off g W W') (hb:g<base) (he:MW e=false):W'.ownsRow base e sz v n xs:=by
 refine⟨h.1,?_⟩;rcases h.2 with hn | ⟨k,cap,cur,rfl,hbg,hgg,rest⟩
 ·exact .inl hn
 ·exact .inr ⟨k,cap,cur,rfl,hbg,ho.rest _ _ _ _ hgg (by omega) he,rest⟩
theorem Off.cell {g:Nat}{W W':World}{k o:Nat}{c:Array Value}{t:TypeId}{fr:Nat × Nat}{v:Value}(ho:Off g W W') (h:W.heap[k]? =some (.cells c t fr)) (hne:k≠g) (he:MW t=false) (hc:c[o]? =some v):jc W' k o v:=
 (cell_of_row W' k o _ _ _ (ho.rest _ _ _ _ h hne he)).trans hc
theorem IntOwn.il {w:World}{base:Nat}{a:Option Addr}{c:Nat}{l:List Int}(h:IntOwn w base (js a l.length c) l):IL w a l.length l:=by
 obtain⟨a',n,c',e,hl⟩:=h.ilv;cases e;exact hl
theorem ztr {l:List Sec}(h:za4 l l.length):zat Sec.id l l.length:=fun i hi _=>⟨⟨(h i hi hi).1.1,(h i hi hi).1.2.1⟩,fun h'=>((h i hi hi).2 (i-1) (by omega)).1⟩
theorem zhy {l:List Sec}(h:za4 l l.length){k:Nat}(hk:k<l.length) (q:Nat) (hq:l[k].id=(q:Int)):zax l l.length q=l[k].ends.length:=by
 unfold zax;rw[List.take_length]
 have:l.find? (fun s=>decide (s.id=(q:Int)))=some l[k]:=List.find?_eq_some_iff_getElem.2 ⟨by simpa using hq,k,hk,rfl,fun j hj=>by
  have:=((h k hk hk).2 j hj).1
  simp;omega⟩
 rw[this]
structure R2 (N:Nat) (w0:World) (B g g7:Nat) (PV OV va vo:Value) (near:Int) (lp lo:List Int) (f0 f1 f2 f3 f4 f5 f6 f7 f8 f9 f10 f11 f12 f13 f14 f15 f16 f17 f18 f19:Bool) (s5 s6 s126 s127 s128 s129 s130 s131 s132 s133 s134 s135 s136 s137 s138 s139 s140 s141 s142:Value) (W:World):Prop where
 os:W.os=w0.os
 tape:W.tape=w0.tape
 output:W.output=w0.output
 size:N≤W.heap.size
 block: ∀b,b<N→b≠B+1→W.heap[b]? =w0.heap[b]?
 zb:f17=false→jk W (B+1) #[.slice none 0 0,.slice none 0 0,.slice none 0 0,.int .i64 0] 184
 h0:f0=true→s126= .pointer (some ⟨B,3,none⟩)
 h1:f1=true→s127=PV
 h2:f2=true→ ∃a c,s128= .slice a lp.length c∧IntOwn W N (js a lp.length c) lp
 h3:f3=true→s129= .pointer (some ⟨B,4,none⟩)
 h4:f4=true→s130=OV
 h5:f5=true→ ∃a c,s131= .slice a lo.length c∧IntOwn W N (js a lo.length c) lo
 h6:f6=true→s132= .pointer (some ⟨g,0,none⟩)
 h7:f7=true→s133= .pointer (some ⟨g,0,none⟩)
 h8:f8=true→s134= .pointer (some ⟨g,8,none⟩)
 h9:f9=true→s135=va
 h10:f10=true→s136= .pointer (some ⟨g7,1,none⟩)
 h11:f11=true→s137= .int .i64 near
 h12:f12=true→s138= .agg #[s128,s131,va,near]∧f2=true∧f5=true
 h13:f13=true→s139= .pointer (some ⟨g,0,none⟩)
 h14:f14=true→s140= .pointer (some ⟨g,0,none⟩)
 h15:f15=true→s141= .pointer (some ⟨g,9,none⟩)
 h16:f16=true→s142=vo
 h17:f17=true→jk W (B+1) #[s128,s131,va,near] 184
 hq:f17=true→f12=true
 h18:f18=true→s5=vo
 h19:f19=true→s6= .int .i64 0
theorem R2.below {N:Nat}{w0:World}{B g g7:Nat}{PV OV va vo:Value}{near:Int}{lp lo:List Int}{f0 f1 f2 f3 f4 f5 f6 f7 f8 f9 f10 f11 f12 f13 f14 f15 f16 f17 f18 f19:Bool}{s5 s6 s126 s127 s128 s129 s130 s131 s132 s133 s134 s135 s136 s137 s138 s139 s140 s141 s142:Value}{W W':World}(h:R2 N w0 B g g7 PV OV va vo near lp lo f0 f1 f2 f3 f4 f5 f6 f7 f8 f9 f10 f11 f12 f13 f14 f15 f16 f17 f18 f19 s5 s6 s126 s127 s128 s129 s130 s131 s132 s133 s134 s135 s136 s137 s138 s139 s140 s141 s142 W) (hb:jb W W') (hB:B+1<N):R2 N w0 B g g7 PV OV va vo near lp lo f0 f1 f2 f3 f4 f5 f6 f7 f8 f9 f10 f11 f12 f13 f14 f15 f16 f17 f18 f19 s5 s6 s126 s127 s128 s129 s130 s131 s132 s133 s134 s135 s136 s137 s138 s139 s140 s141 s142 W':=
 {h with
  os:=hb.os.trans h.os
  tape:=hb.tape.trans h.tape
  output:=hb.output.trans h.output
  size:=Nat.le_trans h.size hb.size
  block:=fun b k1 k2=>(hb.block b (Nat.lt_of_lt_of_le k1 h.size)).trans (h.block b k1 k2)
  zb:=fun k=>(hb.block _ (Nat.lt_of_lt_of_le hB h.size)).trans (h.zb k)
  h2:=fun k=>(h.h2 k).imp fun a hh=>hh.imp fun c hc=>⟨hc.1,zau hc.2 hb⟩
  h5:=fun k=>(h.h5 k).imp fun a hh=>hh.imp fun c hc=>⟨hc.1,zau hc.2 hb⟩
  h17:=fun k=>(hb.block _ (Nat.lt_of_lt_of_le hB h.size)).trans (h.h17 k)}
theorem zkp {W W':World}{base:Nat}{e:TypeId}{sz:Nat}{v:Value}{n:Nat}{xs:List Value}(h:W.ownsRow base e sz v n xs) (hk: ∀k,base≤k→k<W.heap.size→W'.heap[k]? =W.heap[k]?):W'.ownsRow base e sz v n xs:=by
 refine⟨h.1,?_⟩;rcases h.2 with hn | ⟨k,cap,cur,rfl,hbg,hgg,rest⟩
 ·exact .inl hn
 ·exact .inr ⟨k,cap,cur,rfl,hbg,(hk k hbg (zad hgg)).trans hgg,rest⟩
theorem zeq {w:World}{base:Nat}{e:TypeId}{sz:Nat}{v:Value}{n:Nat}{xs:List Value}(h:w.ownsRow base e sz v n xs): ∃a c,v= .slice a n c:=by
 rcases h.2 with⟨rfl,h0⟩ | ⟨g,cap,cur,rfl,_⟩
 ·exact⟨none,0,by rw[h0]⟩
 ·exact⟨_,_,rfl⟩
theorem zts (p:Pl) (r:Rt) (s q gg rr vp vo vf:Value) (w:World) (hp:PlM w s q gg rr p) (hf:p.Fit) (hr:RtM w vp vo vf r) (hM:zaq p) (hR:zb2 (zax p.S p.S.length) p.G p.P r):
  Calls Tryz.prog 209 #[plV p s q gg rr,.agg #[r.id,r.E,r.X,vp,vo,vf,r.T]] w (zm5 w p r):=by
 have HSG:Hid (∀id w',jb w w'→Calls Tryz.prog 301 #[plV p s q gg rr,.int .i64 id] w' fun e w''=>e= .returned (.agg #[.int .i64 (zbe p id).id,.int .i64 (zbe p id).sec,.int .i64 (zbe p id).en])∧jb w' w''):=fun id w' hb=>zto p s q gg rr id w' (hp.below hb) hf hM.2.1.2.1.1.1;have HM:=hI hM;have HRM:=hI hR;obtain⟨a1,c1,rfl,k1⟩:=hp.S;obtain⟨a2,c2,rfl,-⟩:=hp.P;obtain⟨a3,c3,rfl,-⟩:=hp.G;obtain⟨a4,c4,rfl,-⟩:=hp.R;obtain⟨ap,cp,rfl,kp⟩:=hr.A.at_;obtain⟨ao,co,rfl,ko⟩:=hr.O.at_;obtain⟨af,cf,rfl,kf⟩:=hr.fl;have HS:Hid (∀w',jb w w'→SlA w' 3 zas a1 c1 p.S):=fun w' hb=>k1.below zbo hb;have HP:Hid (∀w',jb w w'→IL w' ap r.A.length r.A):=fun w' hb=>kp.below hb;have HO:Hid (∀w',jb w w'→IL w' ao r.O.length r.O):=fun w' hb=>ko.below hb;have HFL:Hid (∀w',jb w w'→SlA w' 2 RFl af cf r.fl):=fun w' hb=>kf.below zgi hb;have hs:=hf.S;clear hp hf hr hM hR k1 kp ko kf;unfold plV at *;go_enter Tryz.func209,Tryz.ntmps209;go_upto_region 1 with fail;generalize hE:zbe p r.E=E at *;generalize hX:zbe p r.X=X at *;have HSE:Hid (∀w',jb w w'→Calls Tryz.prog 301 #[.agg #[p.ver,p.par,js a1 p.S.length c1,js a2 p.P.length c2,js a3 p.G.length c3,js a4 p.R.length c4],r.E] w' fun e w''=>e= .returned (sgV E)∧jb w' w''):=fun w' hb=>by have:=HSG r.E w' hb;rw[hE]at this;exact this
 have HSX:Hid (∀w',jb w w'→Calls Tryz.prog 301 #[.agg #[p.ver,p.par,js a1 p.S.length c1,js a2 p.P.length c2,js a3 p.G.length c3,js a4 p.R.length c4],r.X] w' fun e w''=>e= .returned (sgV X)∧jb w' w''):=fun w' hb=>by have:=HSG r.X w' hb;rw[hX]at this;exact this
 have HEE:=hI hE;have HXX:=hI hX;clear HSG hE hX
 have HENT:Hid (0≤E.en∧ ∀k (h:k<p.S.length),p.S[k].id=E.sec→E.en.toNat<p.S[k].ends.length):=by
  have h1:=ze8 (z:=zSg) HRM.1.1;obtain⟨j,hj,he⟩:=List.getElem_of_mem h1.1;have h2:=(HM.2.1.2.1.2 j hj hj).1;have h3:za1 Sg.id zSg p.G r.E=E:=HEE.out;rw[he,h3]at h2;refine⟨h2.2.1,fun k h hk=> ?_⟩;have h4:=h2.2.2;have h5:=h2.2.1;rw[zhy HM.out.1.2.2.2.2.2.1 h E.sec.toNat (by have:=h2.1.1;omega)]at h4;omega
 go_cut [7,8] (fun s7 s8 wx=> ∃g7 g8:Nat,s7= .pointer (some ⟨g7,0,none⟩)∧s8= .pointer (some ⟨g8,0,none⟩)∧jk wx g7 (sgC E) 145∧jk wx g8 (sgC X) 145∧jk wx w.heap.size #[p.ver,p.par,js a1 p.S.length c1,js a2 p.P.length c2,js a3 p.G.length c3,js a4 p.R.length c4] 28∧jk wx (w.heap.size+1) #[r.id,r.E,r.X,js ap r.A.length cp,js ao r.O.length co,js af r.fl.length cf,r.T] 102∧jk wx (w.heap.size+2) #[.slice none 0 0,.slice none 0 0,.slice none 0 0,.int .i64 0] 184∧jb w wx∧w.heap.size+3≤wx.heap.size)
 case first=>
  generalize hw0:((w.alloc _).alloc _).alloc _=w0
  have r0:jk w0 w.heap.size #[p.ver,p.par,js a1 p.S.length c1,js a2 p.P.length c2,js a3 p.G.length c3,js a4 p.R.length c4] 28:=by
   subst hw0;exact(Below.heap_alloc _ _ _ (by simp;omega)).trans ((Below.heap_alloc _ _ _ (by simp)).trans (heap_alloc_new w _))
  have r1:jk w0 (w.heap.size+1) #[r.id,r.E,r.X,js ap r.A.length cp,js ao r.O.length co,js af r.fl.length cf,r.T] 102:=by
   subst hw0;refine(Below.heap_alloc _ _ _ (by simp)).trans ?_;have:=heap_alloc_new (w.alloc (.cells #[p.ver,p.par,js a1 p.S.length c1,js a2 p.P.length c2,js a3 p.G.length c3,js a4 p.R.length c4] 28)) (.cells #[r.id,r.E,r.X,js ap r.A.length cp,js ao r.O.length co,js af r.fl.length cf,r.T] 102);rwa [World.size_alloc]at this
  have r2:jk w0 (w.heap.size+2) #[.slice none 0 0,.slice none 0 0,.slice none 0 0,.int .i64 0] 184:=by
   subst hw0;have:=heap_alloc_new ((w.alloc (.cells #[p.ver,p.par,js a1 p.S.length c1,js a2 p.P.length c2,js a3 p.G.length c3,js a4 p.R.length c4] 28)).alloc (.cells #[r.id,r.E,r.X,js ap r.A.length cp,js ao r.O.length co,js af r.fl.length cf,r.T] 102)) (.cells #[.slice none 0 0,.slice none 0 0,.slice none 0 0,.int .i64 0] 184);rwa [World.size_alloc,World.size_alloc]at this
  have hz:w0.heap.size=w.heap.size+3:=by subst hw0;simp
  have hB0:jb w w0:=by subst hw0;exact(jal.alloc (by simp) _).alloc (by simp;omega) _
  have HB0:=hI hB0;clear hw0 hB0 HS HP HO HFL;refine zd7 (by kernel_rfl) (by kernel_rfl) (fun f a W=> ∃s7 s8 s17 s18 s19 s20 s21 s22 s23 s24:Value,a={tmps:=#[.agg #[p.ver,p.par,js a1 p.S.length c1,js a2 p.P.length c2,js a3 p.G.length c3,js a4 p.R.length c4],.agg #[r.id,r.E,r.X,js ap r.A.length cp,js ao r.O.length co,js af r.fl.length cf,r.T],.pointer (some ⟨w.heap.size,0,none⟩),.pointer (some ⟨w.heap.size+1,0,none⟩),.pointer (some ⟨w.heap.size+1+1,0,none⟩),.slice none 0 0,.int .i64 0,s7,s8,undef,undef,undef,undef,undef,undef,undef,undef,s17,s18,s19,s20,s21,s22,s23,s24,undef,undef,undef,undef,undef,undef,undef,undef,undef,undef,undef,undef,undef,undef,undef,undef,undef,undef,undef,undef,undef,undef,undef,undef,undef,undef,undef,undef,undef,undef,undef,undef,undef,undef,undef,undef,undef,undef,undef,undef,undef,undef,undef,undef,undef,undef,undef,undef,undef,undef,undef,undef,undef,undef,undef,undef,undef,undef,undef,undef,undef,undef,undef,undef,undef,undef,undef,undef,undef,undef,undef,undef,undef,undef,undef,undef,undef,undef,undef,undef,undef,undef,undef,undef,undef,undef,undef,undef,undef,undef,undef,undef,undef,undef,undef,undef,undef,undef,undef,undef,undef,undef,undef,undef,undef,undef,undef,undef,undef,undef,undef,undef,undef,undef,undef,undef,undef,undef],defers:=[]}∧R1 w0.heap.size w0 (.agg #[p.ver,p.par,js a1 p.S.length c1,js a2 p.P.length c2,js a3 p.G.length c3,js a4 p.R.length c4]) (w.heap.size+1) r.E r.X E X (f 0) (f 1) (f 2) (f 3) (f 4) (f 5) (f 6) (f 7) (f 8) (f 9) (f 10) (f 11) s7 s8 s17 s18 s19 s20 s21 s22 s23 s24 W) ?_ ?_ ?_
  ·exact⟨_,_,_,_,_,_,_,_,_,_,rfl,⟨⟨rfl,rfl,rfl,Nat.le_refl _,fun _ _=>rfl⟩,by simp,by simp,by simp,by simp,by simp,by simp,by simp,by simp,by simp,by simp,by simp,by simp,by simp⟩⟩
  ·intro i o ho f a W hIv hd hun;obtain⟨s7,s8,s17,s18,s19,s20,s21,s22,s23,s24,rfl,hS⟩:=hIv;have hN:=hS.old.size;have HBW:jb w W:=Below.of_old hS.old HB0 (by omega) (by omega);have q0:=hS.old.block (w.heap.size) (by omega);rw[r0]at q0;have q1:=hS.old.block (w.heap.size+1) (by omega);rw[r1]at q1;rcases i with _ | _ | _ | _ | _ | _ | _ | _ | _ | _ | _ | _ | i
   ·simp at ho;subst ho;obtain⟨cc0,cc1,cc2,cc3,cc4,cc5⟩:=zan q0;simp[wpOp,go_sem,cc0,cc1,cc2,cc3,cc4,cc5];exact .inl ⟨_,_,_,_,_,_,_,_,_,_,⟨rfl,rfl,rfl,rfl,rfl,rfl,rfl,rfl,rfl,rfl⟩,{hS with h0:=fun _=>rfl}⟩
   ·simp at ho;subst ho;simp[wpOp,go_sem];exact .inl ⟨_,_,_,_,_,_,_,_,_,_,⟨rfl,rfl,rfl,rfl,rfl,rfl,rfl,rfl,rfl,rfl⟩,{hS with h1:=fun _=>rfl}⟩
   ·simp at ho;subst ho;obtain rfl:=hS.h1 (hd ⟨1,.data⟩ (by simp) (by rfl));have cc:jc W (w.heap.size+1) 1 r.E:=jr q1;simp[wpOp,go_sem,cc];exact .inl ⟨_,_,_,_,_,_,_,_,_,_,⟨rfl,rfl,rfl,rfl,rfl,rfl,rfl,rfl,rfl,rfl⟩,{hS with h2:=fun _=>rfl}⟩
   ·simp at ho;subst ho;obtain rfl:=hS.h0 (hd ⟨0,.data⟩ (by simp) (by rfl));obtain rfl:=hS.h2 (hd ⟨2,.data⟩ (by simp) (by rfl));simp[wpOp,go_sem];refine .inl ((HSE _ HBW).mono ?_);rintro e w' ⟨rfl,hb⟩;simp[go_sem];exact⟨_,_,_,_,_,_,_,_,_,_,⟨rfl,rfl,rfl,rfl,rfl,rfl,rfl,rfl,rfl,rfl⟩,{R1.below hS hb with h3:=fun _=>rfl}⟩
   ·simp at ho;subst ho;obtain⟨cc0,cc1,cc2,cc3,cc4,cc5⟩:=zan q0;simp[wpOp,go_sem,cc0,cc1,cc2,cc3,cc4,cc5];exact .inl ⟨_,_,_,_,_,_,_,_,_,_,⟨rfl,rfl,rfl,rfl,rfl,rfl,rfl,rfl,rfl,rfl⟩,{hS with h4:=fun _=>rfl}⟩
   ·simp at ho;subst ho;simp[wpOp,go_sem];exact .inl ⟨_,_,_,_,_,_,_,_,_,_,⟨rfl,rfl,rfl,rfl,rfl,rfl,rfl,rfl,rfl,rfl⟩,{hS with h5:=fun _=>rfl}⟩
   ·simp at ho;subst ho;obtain rfl:=hS.h5 (hd ⟨5,.data⟩ (by simp) (by rfl));have cc:jc W (w.heap.size+1) 2 r.X:=jr q1;simp[wpOp,go_sem,cc];exact .inl ⟨_,_,_,_,_,_,_,_,_,_,⟨rfl,rfl,rfl,rfl,rfl,rfl,rfl,rfl,rfl,rfl⟩,{hS with h6:=fun _=>rfl}⟩
   ·simp at ho;subst ho;obtain rfl:=hS.h4 (hd ⟨4,.data⟩ (by simp) (by rfl));obtain rfl:=hS.h6 (hd ⟨6,.data⟩ (by simp) (by rfl));simp[wpOp,go_sem];refine .inl ((HSX _ HBW).mono ?_);rintro e w' ⟨rfl,hb⟩;simp[go_sem];exact⟨_,_,_,_,_,_,_,_,_,_,⟨rfl,rfl,rfl,rfl,rfl,rfl,rfl,rfl,rfl,rfl⟩,{R1.below hS hb with h7:=fun _=>rfl}⟩
   ·simp at ho;subst ho;have hb:jb W (W.alloc (.cells (sgC zSg) 145)):=jal;have hS':=R1.below hS hb;have hnew:=heap_alloc_new W (.cells (sgC zSg) 145)
    have ff:f 10=false:=by
     cases h:f 10 with
     | false=>rfl
     | true=>have:=hS.h11 h;rw[hun]at this;cases this
    simp[wpOp,go_sem];refine .inl ⟨_,_,_,_,_,_,_,_,_,_,⟨rfl,rfl,rfl,rfl,rfl,rfl,rfl,rfl,rfl,rfl⟩,{hS' with h8:=fun _=>⟨_,rfl,hN,by rw[ff];exact hnew⟩,h10:= ?_,h11:=fun _=>rfl}⟩;intro _ hq;obtain⟨g,e1,-,e3⟩:=hS.h9 hq;rw[e1];intro e
    injection e with e
    injection e with e
    injection e with e
    subst e;rw[Array.getElem?_eq_none (Nat.le_refl _)]at e3;cases e3
   ·simp at ho;subst ho;have hb:jb W (W.alloc (.cells (sgC zSg) 145)):=jal;have hS':=R1.below hS hb;have hnew:=heap_alloc_new W (.cells (sgC zSg) 145)
    have ff:f 11=false:=by
     cases h:f 11 with
     | false=>rfl
     | true=>have:=hS.h12 h;rw[hun]at this;cases this
    simp[wpOp,go_sem];refine .inl ⟨_,_,_,_,_,_,_,_,_,_,⟨rfl,rfl,rfl,rfl,rfl,rfl,rfl,rfl,rfl,rfl⟩,{hS' with h9:=fun _=>⟨_,rfl,hN,by rw[ff];exact hnew⟩,h10:= ?_,h12:=fun _=>rfl}⟩;intro hq _;obtain⟨g,e1,-,e3⟩:=hS.h8 hq;rw[e1];intro e
    injection e with e
    injection e with e
    injection e with e
    subst e;rw[Array.getElem?_eq_none (Nat.le_refl _)]at e3;cases e3
   ·simp at ho;subst ho;have d1:=hd ⟨3,.data⟩ (by simp) (by rfl);have d4:=hd ⟨8,.data⟩ (by simp) (by rfl);have d5:=hd ⟨9,.phase⟩ (by simp) (by rfl);obtain rfl:=hS.h3 d1;obtain⟨g,e1,e2,e3⟩:=hS.h8 d4;obtain⟨g',e1',e2',e3'⟩:=hS.h9 d5
    have hne:g'≠g:=by
     intro e;exact hS.h10 d4 d5 (by rw[e1,e1',e])
    subst e1 e1';rw[hun]at e3;simp only[Bool.false_eq_true,if_false]at e3;obtain⟨cc0,cc1,cc2⟩:=zap e3;have hf:=(by simp[World.frozen?,e3]: ∀o,W.frozen? ⟨g,o,none⟩=false);simp[wpOp,go_sem,sgV,cc0,cc1,cc2,hf];refine .inl ⟨_,_,_,_,_,_,_,_,_,_,⟨rfl,rfl,rfl,rfl,rfl,rfl,rfl,rfl,rfl,rfl⟩,{hS with old:=((hS.old.setCell e2 _).setCell e2 _).setCell e2 _,h8:=fun _=>⟨g,rfl,e2,?_⟩,h9:=fun _=>⟨g',rfl,e2',?_⟩,h11:=fun _=>d4}⟩
    all_goals first
     | (simp[World.setCell,Array.getElem?_modify,e3,sgC];done)
     | (simp only[World.setCell,Array.getElem?_modify,if_neg (Ne.symm hne)];exact e3')
   ·simp at ho;subst ho;have d1:=hd ⟨7,.data⟩ (by simp) (by rfl);have d4:=hd ⟨9,.data⟩ (by simp) (by rfl);have d5:=hd ⟨8,.phase⟩ (by simp) (by rfl);obtain rfl:=hS.h7 d1;obtain⟨g,e1,e2,e3⟩:=hS.h9 d4;obtain⟨g',e1',e2',e3'⟩:=hS.h8 d5
    have hne:g'≠g:=by
     intro e;exact hS.h10 d5 d4 (by rw[e1,e1',e])
    subst e1 e1';rw[hun]at e3;simp only[Bool.false_eq_true,if_false]at e3;obtain⟨cc0,cc1,cc2⟩:=zap e3;have hf:=(by simp[World.frozen?,e3]: ∀o,W.frozen? ⟨g,o,none⟩=false);simp[wpOp,go_sem,sgV,cc0,cc1,cc2,hf];refine .inl ⟨_,_,_,_,_,_,_,_,_,_,⟨rfl,rfl,rfl,rfl,rfl,rfl,rfl,rfl,rfl,rfl⟩,{hS with old:=((hS.old.setCell e2 _).setCell e2 _).setCell e2 _,h9:=fun _=>⟨g,rfl,e2,?_⟩,h8:=fun _=>⟨g',rfl,e2',?_⟩,h12:=fun _=>d4}⟩
    all_goals first
     | (simp[World.setCell,Array.getElem?_modify,e3,sgC];done)
     | (simp only[World.setCell,Array.getElem?_modify,if_neg (Ne.symm hne)];exact e3')
   ·simp at ho
  ·intro f a W hIv hall;obtain⟨s7,s8,s17,s18,s19,s20,s21,s22,s23,s24,rfl,hS⟩:=hIv;obtain⟨g,e1,e2,e3⟩:=hS.h8 (hall 8 (by decide));obtain⟨g',e1',e2',e3'⟩:=hS.h9 (hall 9 (by decide));rw[hall 10 (by decide)]at e3;rw[hall 11 (by decide)]at e3';simp only[if_true]at e3 e3';subst e1 e1';have HBW:jb w W:=Below.of_old hS.old HB0 (by omega) (by omega);have q0:=(hS.old.block (w.heap.size) (by omega)).trans r0;have q1:=(hS.old.block (w.heap.size+1) (by omega)).trans r1;have q2:=(hS.old.block (w.heap.size+2) (by omega)).trans r2;have hN:=hS.old.size;have hne:g≠g':=fun e=>hS.h10 (hall 8 (by decide)) (hall 9 (by decide)) (by rw[e]);have HF:Hid (∃g7 g8:Nat,(Value.pointer (some ⟨g,0,none⟩)= .pointer (some ⟨g7,0,none⟩))∧(Value.pointer (some ⟨g',0,none⟩)= .pointer (some ⟨g8,0,none⟩))∧jk W g7 (sgC E) 145∧jk W g8 (sgC X) 145∧jk W w.heap.size #[p.ver,p.par,js a1 p.S.length c1,js a2 p.P.length c2,js a3 p.G.length c3,js a4 p.R.length c4] 28∧jk W (w.heap.size+1) #[r.id,r.E,r.X,js ap r.A.length cp,js ao r.O.length co,js af r.fl.length cf,r.T] 102∧jk W (w.heap.size+2) #[.slice none 0 0,.slice none 0 0,.slice none 0 0,.int .i64 0] 184∧jb w W∧w.heap.size+3≤W.heap.size):=⟨g,g',rfl,rfl,e3,e3',q0,q1,q2,HBW,by omega⟩;clear hS hall r0 r1 r2 q0 q1 q2 e3 e3' e2 e2' hN hne HBW HSE HSX hz;go_wp2_with fail;go_meet
   case rel=>exact HF
 case rest=>
  obtain⟨g7,g8,rfl,rfl,b7,b8,b0,b1,b2,hb,hsz⟩:=hcut;have l7:=zad b7;have l8:=zad b8;obtain⟨P0,P1,P2,P3,P4,P5⟩:=zan b0;have B0:=hI b0;have B1:=hI b1;have B2:=hI b2;have B7:=hI b7;have B8:=hI b8;have HB:=hI hb;have ln:w.heap.size<wc.heap.size:=by omega
  clear b0 b1 b2 b7 b8 hb HSE HSX;go_wp2_with fail;generalize hWg:wc.alloc _=Wg;have hbg:jb wc Wg:=by rw[←hWg];exact jal
  have HW0:Hid (WkM Wg wc.heap.size p (js a1 p.S.length c1) (js a2 p.P.length c2) (js a3 p.G.length c3) (js a4 p.R.length c4) ⟨⟨0,0⟩,[],[],false⟩ (.slice none 0 0) (.slice none 0 0)):=⟨by rw[←hWg];exact heap_alloc_new _ _,AskOwn.nil _ _,JnOwn.nil _ _⟩;have HBO:Hid (∀W',Off wc.heap.size Wg W'→jb w W'):=fun W' h=>(HB.trans (hbg.mono (by omega))).trans (h.below.mono (by omega));have HBK:Hid (∀W' k o,Off wc.heap.size Wg W'→wc.heap[k]? =some o→W'.heap[k]? =some o):=fun W' k o h e=>(h.below.block k (zad e)).trans ((hbg.block k (zad e)).trans e);clear hWg hbg P0 P1 P2 P3 P4 P5;go_loopg [31] p.S.length (fun g i wr=> ∃k:Nat,k≤p.S.length∧g=p.S.length-k∧i= .int .i64 k∧Off wc.heap.size Wg wr∧WkM wr wc.heap.size p (js a1 p.S.length c1) (js a2 p.P.length c2) (js a3 p.G.length c3) (js a4 p.R.length c4) ⟨(za1 Sec.id zcy (p.S.take k) E.sec).ends.getD E.en.toNat ⟨0,0⟩,[],[],false⟩ (.slice none 0 0) (.slice none 0 0))
  case atStart=>exact⟨0,by omega,by omega,rfl,Off.refl _ _,by rw[zm1];exact HW0⟩
  case round=>
   obtain⟨k,hk,rfl,rfl,ho,hw⟩:=hrel;obtain⟨w1o,rfl⟩: ∃w1o:World,w1o=wr:=⟨_,rfl⟩;have HO1:=hI ho;have HWK:=hI hw;have lg:=hw.lt;have e7:=HBK _ _ _ ho B7;have f7:jc w1o g7 1 E.sec:=jr e7;have f7':jc w1o g7 2 E.en:=jr e7;have lo7:g7<w1o.heap.size:=zad e7;generalize hIv:(za1 Sec.id zcy (p.S.take k) E.sec).ends.getD E.en.toNat ⟨0,0⟩=I at *;have HII:=hI hIv;clear ho hw e7 hIv;by_cases hlt:k<p.S.length
   ·obtain⟨b,off,a',c',rfl,x0,x1,x2,hends⟩:=(HS _ (HBO _ HO1)).sec hlt;have c0:(0:Int)≤(k:Int):=(by omega);have c1:(k:Int)<(p.S.length:Int):=(by omega);by_cases he:p.S[k].id=E.sec
    ·have t0:(p.S[k].id==E.sec)=true:=(by rw[beq_iff_eq];exact he);obtain⟨n,hn⟩:=Int.eq_ofNat_of_zero_le HENT.1;have hnl:n<p.S[k].ends.length:=(by have:=HENT.2 k hlt he;omega);obtain⟨b',off',rfl,x3,x4⟩:=hends.jn hnl;have lb':=World.block_lt_of_cell? _ _ x3
     have HON:Hid ((za1 Sec.id zcy (p.S.take (k+1)) E.sec).ends.getD E.en.toNat ⟨0,0⟩=p.S[k].ends[n]):=by
      show _=_;rw[zm3 hlt (ztr HM.out.1.2.2.2.2.2.1) he,hn,Int.toNat_natCast,List.getD_eq_getElem?_getD,List.getElem?_eq_getElem hnl];rfl
     rw[hn]at f7';have i0:(0:Int)≤(n:Int):=(by omega);have i1:(n:Int)<(p.S[k].ends.length:Int):=(by omega);have y6:=HWK.to;have y7:=HWK.en;have z6:=HWK.frozen;generalize p.S[k].ends[n]=JN at *;clear hends he hn hnl;go_wp2_with fail;go_roundg (p.S.length-(k+1))
     case measure=>go_light;omega
     case rel=>
      go_light;refine⟨k+1,by omega,by omega,by go_num,?_,?_⟩
      ·exact(HO1.trans ((Off.setCell _ _ _ _).trans (Off.setCell _ _ _ _))).trans (Off.of_below jal (by simp[World.setCell];omega))
      ·rw[HON.out];exact(HWK.setIn JN).below jal
    ·have t0:(p.S[k].id==E.sec)=false:=(by rw[beq_eq_false_iff_ne];exact he);have HON:=hI (zm2 (z:=zcy) hlt he);clear hends he;go_wp2_with fail;go_roundg (p.S.length-(k+1))
     case measure=>go_light;omega
     case rel=>
      go_light;have hb2:jb w1o (w1o.alloc (.cells #[p.S[k].id,p.S[k].pt,js a' p.S[k].ends.length c'] 80)):=jal;refine⟨k+1,by omega,by omega,by go_num,HO1.trans (Off.of_below hb2 (Nat.le_of_lt lg)),?_⟩;rw[HON.out,HII.out];exact HWK.below hb2
   ·obtain rfl:k=p.S.length:=by omega
    have HI0:I=zhl p r:=by
     rw[←HII.out,List.take_length,←HEE.out];rfl
    subst HI0;clear HW0 f7 f7' lo7;have HRT:Hid (∀W',Off wc.heap.size Wg W'→jk W' (w.heap.size+1) #[r.id,r.E,r.X,js ap r.A.length cp,js ao r.O.length co,js af r.fl.length cf,r.T] 102):=fun W' h=>HBK _ _ _ h B1;have R3:jc w1o (w.heap.size+1) 3 (js ap r.A.length cp):=jr (HRT _ HO1);have R4:jc w1o (w.heap.size+1) 4 (js ao r.O.length co):=jr (HRT _ HO1);have lr:=World.block_lt_of_cell? _ _ R3;have d5:r.A.length≤6:=HRM.1.2.2.2.2.1;have d6:r.O.length≤2:=HRM.1.2.2.2.2.2.1;go_wp2_with fail;generalize hWA:w1o.alloc _=WA;have hbA:jb w1o WA:=(by rw[←hWA];exact jal);have x0:jc WA w1o.heap.size 0 (js ap r.A.length cp):=(by rw[←hWA];simp);have x1:jc WA w1o.heap.size 1 (js ao r.O.length co):=(by rw[←hWA];simp);have HOA:Hid (Off wc.heap.size Wg WA):=HO1.trans (Off.of_below hbA (Nat.le_of_lt lg));have HWA:=hI (HWK.below hbA);have lgA:wc.heap.size<WA.heap.size:=HWA.lt;refine(zm4 w1o.heap.size ap ao cp co r.A r.O WA x0 x1 (HP _ (HBO _ HOA)) (HO _ (HBO _ HOA)) (by omega) (by omega)).mono ?_;rintro e wB ⟨aa,ac,rfl,hown,hbB⟩;have hln:(r.A++r.O).length=r.A.length+r.O.length:=List.length_append;have hAL:zaa r=r.A++r.O:=rfl;generalize r.A++r.O=AL at *;have HOB:Hid (Off wc.heap.size Wg wB):=HOA.trans (Off.of_below hbB (Nat.le_of_lt lgA));have HWB:=hI (HWA.below hbB);have HAO:=hI hown;have HALL:=hI hAL;have lgB:=HWB.lt;have hal:AL.length≤8:=(by omega);clear hWA hbA x0 x1 hown hbB hAL R3 R4 lr hln;go_wp2_with fail;generalize hW9:wB.alloc _=W9;have hb9:jb wB W9:=(by rw[←hW9];exact jal);have HBA:Hid (jk W9 wB.heap.size #[js aa AL.length ac] 54):=(by show _=_;rw[←hW9];exact heap_alloc_new _ _);have HO9:Hid (Off wc.heap.size Wg W9):=HOB.trans (Off.of_below hb9 (Nat.le_of_lt lgB));have HW9:Hid (WkM W9 wc.heap.size p (js a1 p.S.length c1) (js a2 p.P.length c2) (js a3 p.G.length c3) (js a4 p.R.length c4) (za7 p r 0) (.slice none 0 0) (.slice none 0 0)):=HWB.below hb9;have HA9:Hid (IntOwn W9 WA.heap.size (js aa AL.length ac) AL):=zau HAO hb9;have hneA:wB.heap.size≠wc.heap.size:=(by omega);clear hW9 hb9;go_loopg [58] AL.length (fun g' i wr=> ∃(k:Nat) (va vo:Value),k≤AL.length∧g'=AL.length-k∧i= .int .i64 k∧Off wc.heap.size W9 wr∧WkM wr wc.heap.size p (js a1 p.S.length c1) (js a2 p.P.length c2) (js a3 p.G.length c3) (js a4 p.R.length c4) (za7 p r k) va vo)
    case atStart=>exact⟨0,_,_,by omega,by omega,rfl,Off.refl _ _,HW9⟩
    case round=>
     obtain⟨k,va,vo,hk,rfl,rfl,ho,hw⟩:=hrel;obtain⟨w2o,rfl⟩: ∃w2o:World,w2o=wr:=⟨_,rfl⟩;have HOR:=hI ho;have HWR:=hI hw;have lgr:=hw.lt;clear ho hw;by_cases hlt:k<AL.length
     ·have HGD:Hid ((zaa r).getD k 0=AL[k]):=by
       show _=_;rw[HALL.out,List.getD_eq_getElem?_getD,List.getElem?_eq_getElem hlt];rfl
      obtain⟨b,off,rfl,x0⟩:=(IntOwn.il (HOR.own HA9 lgA rfl)).cell k hlt;have lb:=World.block_lt_of_cell? _ _ x0;have e0:(0:Int)≤(k:Int):=(by omega);have e1:(k:Int)<(AL.length:Int):=(by omega);go_upto_region 14 with fail;generalize hW13:(w2o.alloc _).alloc _=W13;have hb13:jb w2o W13:=(by rw[←hW13];exact jal.alloc (by simp) _);have HI:Hid (jk W13 w2o.heap.size #[.int .i64 (k:Int)] 3):=(by show _=_;rw[←hW13];exact(heap_alloc_old _ _ (by simp)).trans (heap_alloc_new _ _));have HSC:Hid (jk W13 (w2o.heap.size+1) #[AL[k]] 3):=(by show _=_;rw[←hW13];exact heap_alloc2_new _ _ _);have HO13:Hid (Off wc.heap.size W9 W13):=HOR.trans (Off.of_below hb13 (Nat.le_of_lt lgr));have HW13:=hI (HWR.below hb13);have HOG:Hid (Off wc.heap.size Wg W13):=HO9.trans HO13;have HS13:Hid (∀W',Below wc.heap.size W13 W'→SlA W' 3 zas a1 c1 p.S):=fun W' hb=>HS W' ((HBO _ HOG).trans (hb.mono (by omega)));have HBA13:Hid (jk W13 wB.heap.size #[jq b off AL.length ac] 54):=HO13.rest _ _ _ _ HBA hneA rfl;have HIO13:=hI (HO13.own HA9 lgA rfl);have H8:Hid (jk W13 g8 (sgC X) 145):=HBK _ _ _ HOG B8;have i0:jc W13 w2o.heap.size 0 (.int .i64 (k:Int)):=jr HI;have s0:jc W13 (w2o.heap.size+1) 0 AL[k]:=jr HSC;have al0:jc W13 wB.heap.size 0 (jq b off AL.length ac):=jr HBA13;have R2:jc W13 (w.heap.size+1) 2 r.X:=jr (HRT _ HOG);have R3:jc W13 (w.heap.size+1) 3 (js ap r.A.length cp):=jr (HRT _ HOG);have hno:w2o.heap.size≠wc.heap.size:=(by omega);have hno1:w2o.heap.size+1≠wc.heap.size:=(by omega);have hn1:(za7 p r k).asks.length≤900:=(by have:=(zgf p r k).1;omega);have hn2:(za7 p r k).outs.length≤900:=(by have:=(zgf p r k).2;omega);have HSA:Hid (za4 p.S p.S.length):=HM.1.2.2.2.2.2.1;clear hW13 hb13 x0 lb lgr;by_cases hA:k+1=r.A.length
      ·have tA:((k:Int)==(r.A.length:Int)-1)=true:=(by rw[beq_iff_eq];omega);by_cases hX:r.X=0
       ·have tX:(r.X==0)=true:=by rw[beq_iff_eq];exact hX
        have HST:Hid (za7 p r (k+1)=zcz p.S (za7 p r k) AL[k] k zfk):=by
         show za8 p r k _=_;unfold za8;rw[if_pos ⟨hA,hX⟩,HGD.out]
        clear hA hX;go_wp2_with fail;refine(zko wc.heap.size p a1 c1 _ _ _ va vo (za7 p r k) AL[k] k 304 #[] zfk W13 HW13 HS13 hs HSA hn1 hn2 zth (fun W' e j hO _=>ztk e j W')).mono ?_;rintro e w2 ⟨rfl,hO2,va2,vo2,hw2⟩;rw[←HST.out]at hw2;have HOZ:Hid (Off wc.heap.size W9 w2):=HO13.trans hO2;have HWZ:=hI hw2;clear hO2 hw2 i0 s0 al0 R2 R3;go_wp2_with fail;go_roundg (AL.length-(k+1))
        case measure=>go_light;omega
        case rel=>go_light;exact⟨k+1,va2,vo2,by omega,by omega,by go_num,HOZ,HWZ⟩
       ·have tX:(r.X==0)=false:=by rw[beq_eq_false_iff_ne];exact hX
        have HST:Hid (za7 p r (k+1)=zcz p.S (za7 p r k) AL[k] k (zfz AL[k] X)):=by
         show za8 p r k _=_;unfold za8;rw[if_neg (fun h=>hX h.2),if_pos hA,HGD.out,HXX.out]
        clear hA hX;go_wp2_with fail;refine(zko wc.heap.size p a1 c1 _ _ _ va vo (za7 p r k) AL[k] k 305 #[jp (w2o.heap.size+1) 0,jp g8 0] (zfz AL[k] X) W13 HW13 HS13 hs HSA hn1 hn2 zti (fun W' e j hO _=>ztl AL[k] X _ _ e j W' (hO.cell HSC hno1 rfl rfl) (hO.cell H8 (by omega) rfl rfl) (hO.cell H8 (by omega) rfl rfl))).mono ?_;rintro e w2 ⟨rfl,hO2,va2,vo2,hw2⟩;rw[←HST.out]at hw2;have HOZ:Hid (Off wc.heap.size W9 w2):=HO13.trans hO2;have HWZ:=hI hw2;clear hO2 hw2 i0 s0 al0 R2 R3;go_wp2_with fail;go_roundg (AL.length-(k+1))
        case measure=>go_light;omega
        case rel=>go_light;exact⟨k+1,va2,vo2,by omega,by omega,by go_num,HOZ,HWZ⟩
      ·have tA:((k:Int)==(r.A.length:Int)-1)=false:=(by rw[beq_eq_false_iff_ne];omega);by_cases hC:k+1=AL.length
       ·have tC:((k:Int)==(AL.length:Int)-1)=true:=by rw[beq_iff_eq];omega
        have HST:Hid (za7 p r (k+1)=zew p.S (za7 p r k) AL[k] k):=by
         show za8 p r k _=_;unfold za8;rw[if_neg (fun h=>hA h.1),if_neg hA,if_pos (by rw[HALL.out];exact hC),HGD.out]
        clear hA hC;go_wp2_with fail;refine(ztp wc.heap.size p a1 c1 _ _ _ va vo (za7 p r k) AL[k] k W13 HW13 HS13 hs hn1).mono ?_;rintro e w2 ⟨rfl,hO2,va2,vo2,hw2⟩;rw[←HST.out]at hw2;have HOZ:Hid (Off wc.heap.size W9 w2):=HO13.trans hO2;have HWZ:=hI hw2;clear hO2 hw2 i0 s0 al0 R2 R3;go_wp2_with fail;go_roundg (AL.length-(k+1))
        case measure=>go_light;omega
        case rel=>go_light;exact⟨k+1,va2,vo2,by omega,by omega,by go_num,HOZ,HWZ⟩
       ·have tC:((k:Int)==(AL.length:Int)-1)=false:=(by rw[beq_eq_false_iff_ne];omega);have hk1:k+1<AL.length:=by omega
        have HST:Hid (za7 p r (k+1)=zcz p.S (za7 p r k) AL[k] k (zgd (AL.getD (k+1) 0))):=by
         show za8 p r k _=_;unfold za8;rw[if_neg (fun h=>hA h.1),if_neg hA,if_neg (by rw[HALL.out];exact hC),HGD.out,HALL.out]
        clear hA hC;go_wp2_with fail;refine(zko wc.heap.size p a1 c1 _ _ _ va vo (za7 p r k) AL[k] k 307 #[jp wB.heap.size 0,jp w2o.heap.size 0] (zgd (AL.getD (k+1) 0)) W13 HW13 HS13 hs HSA hn1 hn2 ztj (fun W' e j hO _=>ztm AL k _ _ (some ⟨b,off,none⟩) ac e j W' (hO.cell HBA13 hneA rfl rfl) (IntOwn.il (hO.own HIO13 lgA rfl)) (hO.cell HI hno rfl rfl) hk1 (by omega))).mono ?_;rintro e w2 ⟨rfl,hO2,va2,vo2,hw2⟩;rw[←HST.out]at hw2;have HOZ:Hid (Off wc.heap.size W9 w2):=HO13.trans hO2;have HWZ:=hI hw2;clear hO2 hw2 i0 s0 al0 R2 R3;go_wp2_with fail;go_roundg (AL.length-(k+1))
        case measure=>go_light;omega
        case rel=>go_light;exact⟨k+1,va2,vo2,by omega,by omega,by go_num,HOZ,HWZ⟩
     ·obtain rfl:k=AL.length:=(by omega);have hdk:decide ((AL.length:Int)<(AL.length:Int))=false:=(by simp);have HEND:Hid (za7 p r AL.length=zcg p r):=(by show _=_;unfold zcg;rw[HALL.out]);rw[HEND.out]at HWR;have y10:=HWR.lost;have HOE:Hid (Off wc.heap.size Wg w2o):=HO9.trans HOR;clear HW9 HO9 HBA HA9 HOR;generalize hKE:zcg p r=KE at *;have HKL:Hid (KE.asks.length≤8):=(by show _≤_;rw[←hKE];have:=(zgf p r (zaa r).length).1;rw[HALL.out]at this;unfold zcg;rw[HALL.out];omega);have BR:Hid (∀W',Off wc.heap.size Wg W'→jk W' (w.heap.size+2) #[.slice none 0 0,.slice none 0 0,.slice none 0 0,.int .i64 0] 184):=fun W' h=>HBK _ _ _ h B2;cases hL:KE.lost with
      | true=>
       rw[hL]at y10;have hbr:=BR _ HOE;obtain⟨z0,z1,z2,z3⟩:=zfv hbr;have zf: ∀o,w2o.frozen? ⟨w.heap.size+1+1,o,none⟩=false:=fun o=>by simp[World.frozen?,hbr]
       have HLL:=hI hL;clear hbr hL;go_wp2_with fail;generalize hWE:World.setCell _ _ _=WE;have q0:jc WE (w.heap.size+1+1) 0 (.slice none 0 0):=(by rw[←hWE];simp[go_sem,z0,z1,z2,z3]);have q1:jc WE (w.heap.size+1+1) 1 (.slice none 0 0):=(by rw[←hWE];simp[go_sem,z0,z1,z2,z3]);have q2:jc WE (w.heap.size+1+1) 2 (.slice none 0 0):=(by rw[←hWE];simp[go_sem,z0,z1,z2,z3]);have q3:jc WE (w.heap.size+1+1) 3 (.int .i64 0):=(by rw[←hWE];simp[go_sem,z0,z1,z2,z3]);have KB:Hid (jb w WE):=(by show Below _ _ _;rw[←hWE];exact((((HBO _ HOE).setCell (by simp;omega) _).setCell (by simp;omega) _).setCell (by simp;omega) _).setCell (by simp;omega) _);clear hWE;exact bodyPost_ret (v:= .tuple #[.agg #[.slice none 0 0,.slice none 0 0,.slice none 0 0,.int .i64 0],.slice none 0 0,.int .i64 90]) (by simp[results,Tryz.f209,go_sem,q0,q1,q2,q3]) rfl ⟨KB,.inl ⟨by rw[hKE];exact HLL,rfl⟩⟩
      | false=>
       rw[hL]at y10;have HLL:=hI hL;have R5:jc w2o (w.heap.size+1) 5 (js af r.fl.length cf):=jr (HRT _ HOE);have d7:r.fl.length≤3:=HRM.1.2.2.2.2.2.2.1;clear hL;go_wp2_with fail;go_loopg [115] r.fl.length (fun g' i wr=> ∃(k:Nat) (va vo:Value),k≤r.fl.length∧g'=r.fl.length-k∧i= .int .i64 k∧Off wc.heap.size Wg wr∧WkM wr wc.heap.size p (js a1 p.S.length c1) (js a2 p.P.length c2) (js a3 p.G.length c3) (js a4 p.R.length c4) (zbg KE r.fl k) va vo)
       case atStart=>exact⟨0,va,vo,by omega,by omega,rfl,HOE,HWR⟩
       case round=>
        obtain⟨k,va,vo,hk,rfl,rfl,ho,hw⟩:=hrel;obtain⟨w3o,rfl⟩: ∃w3o:World,w3o=wr:=⟨_,rfl⟩;have HOR:=hI ho;have HWR:=hI hw;have lgr:=hw.lt;clear ho hw;by_cases hlt:k<r.fl.length
        ·obtain⟨b,off,rfl,x0,x1⟩:=(HFL _ (HBO _ HOR)).fl hlt;have lb:=World.block_lt_of_cell? _ _ x0;have e0:(0:Int)≤(k:Int):=(by omega);have e1:(k:Int)<(r.fl.length:Int):=by omega
         have HST:Hid (zbg KE r.fl (k+1)=zb9 (zbg KE r.fl k) r.fl[k].pt r.fl[k].lie (-1)):=by
          show zb9 _ _ _ _=_;rw[List.getD_eq_getElem?_getD,List.getElem?_eq_getElem hlt];rfl
         have hn1:(zbg KE r.fl k).asks.length≤1000:=(by have:=zik KE r.fl k;have:=HKL.out;omega);go_upto_region 26 with fail;generalize hW13:w3o.alloc _=W13;have hb13:jb w3o W13:=(by rw[←hW13];exact jal);have u0:jc W13 w3o.heap.size 0 r.fl[k].pt:=(by rw[←hW13];simp);have u1:jc W13 w3o.heap.size 1 r.fl[k].lie:=(by rw[←hW13];simp);have HO13:Hid (Off wc.heap.size Wg W13):=HOR.trans (Off.of_below hb13 (Nat.le_of_lt lgr));have HW13:=hI (HWR.below hb13);clear hW13 hb13 x0 x1 lb;go_wp2_with fail;refine(zkn wc.heap.size p _ _ _ _ va vo (zbg KE r.fl k) r.fl[k].pt r.fl[k].lie (-1) W13 HW13 hn1).mono ?_;rintro e w2 ⟨rfl,hO2,-,va2,hw2⟩;rw[←HST.out]at hw2;have HOZ:Hid (Off wc.heap.size Wg w2):=HO13.trans hO2;have HWZ:=hI hw2;clear hO2 hw2 u0 u1;go_wp2_with fail;go_roundg (r.fl.length-(k+1))
         case measure=>go_light;omega
         case rel=>go_light;exact⟨k+1,va2,vo,by omega,by omega,by go_num,HOZ,HWZ⟩
        ·obtain rfl:k=r.fl.length:=(by omega);have HKA:Hid (zbg KE r.fl r.fl.length=zjv p r):=(by show _=_;rw[←hKE];rfl);go_upto_region 28 with fail;have hr1:=HRT _ HOR;have hr2:=BR _ HOR;have hr7:=HBK _ _ _ HOR B7;have hrg:=HWR.blk
         have hg7:g7≠w.heap.size+1+1:=fun e=>by
          have h1:=B7.out;have h2:wc.heap[w.heap.size+1+1]? =_:=B2.out;rw[e,h2]at h1
          injection h1 with h1
          injection h1 with _ h1
          exact absurd h1 (by decide)
         obtain⟨av,cv,rfl⟩:=zeq HWR.asks;obtain⟨ax,cx,rfl⟩:=zeq HWR.outs
         have HLW:Hid (∀W,(W.os=w3o.os∧W.tape=w3o.tape∧W.output=w3o.output∧w3o.heap.size≤W.heap.size∧ ∀b,b<w3o.heap.size→b≠w.heap.size+1+1→W.heap[b]? =w3o.heap[b]?)→jb w W):=fun W h=>by
          have hb:=HBO _ HOR;have hsz:=hb.size;exact⟨h.1.trans hb.os,h.2.1.trans hb.tape,h.2.2.1.trans hb.output,Nat.le_trans hsz h.2.2.2.1,fun k hk=>(h.2.2.2.2 k (by omega) (by omega)).trans (hb.block k hk)⟩
         refine zd7 (by kernel_rfl) (by kernel_rfl) (fun f a W=> ∃s5 s6 s126 s127 s128 s129 s130 s131 s132 s133 s134 s135 s136 s137 s138 s139 s140 s141 s142:Value,a={tmps:=#[.agg #[p.ver,p.par,js a1 p.S.length c1,js a2 p.P.length c2,js a3 p.G.length c3,js a4 p.R.length c4],.agg #[r.id,r.E,r.X,js ap r.A.length cp,js ao r.O.length co,js af r.fl.length cf,r.T],.pointer (some ⟨w.heap.size,0,none⟩),.pointer (some ⟨w.heap.size+1,0,none⟩),.pointer (some ⟨w.heap.size+1+1,0,none⟩),s5,s6,.pointer (some ⟨g7,0,none⟩),.pointer (some ⟨g8,0,none⟩),.pointer (some ⟨wc.heap.size,0,none⟩),undef,u11,.pointer (some ⟨wB.heap.size,0,none⟩),u13,u14,undef,u16,u17,u18,u19,u20,u21,u22,u23,u24,.agg #[p.ver,p.par,js a1 p.S.length c1,js a2 p.P.length c2,js a3 p.G.length c3,js a4 p.R.length c4],.agg #[p.ver,p.par,js a1 p.S.length c1,js a2 p.P.length c2,js a3 p.G.length c3,js a4 p.R.length c4,.int .i64 0,.int .i64 0,.slice none 0 0,.slice none 0 0,.bool false],.pointer (some ⟨wc.heap.size,0,none⟩),.pointer (some ⟨w.heap.size,2,none⟩),.slice a1 p.S.length c1,.int .i64 (p.S.length:Int),.int .i64 (p.S.length:Int),.bool false,u33,u34,u35,u36,u37,u38,u39,u40,u41,u42,u43,u44,u45,u46,u47,u48,u49,.pointer (some ⟨w.heap.size+1,3,none⟩),.slice ap r.A.length cp,.pointer (some ⟨w.heap.size+1,4,none⟩),.slice ao r.O.length co,.slice (some ⟨w1o.heap.size,0,none⟩) 2 2,.slice aa AL.length ac,.slice aa AL.length ac,.int .i64 (AL.length:Int),.int .i64 (AL.length:Int),.bool false,u60,u61,u62,u63,u64,u65,u66,u67,u68,u69,u70,u71,u72,u73,u74,u75,u76,u77,u78,u79,u80,u81,u82,u83,u84,u85,u86,u87,u88,u89,u90,u91,u92,u93,u94,u95,u96,u97,u98,u99,u100,u101,u102,u103,u104,u105,u106,.pointer (some ⟨wc.heap.size,0,none⟩),.pointer (some ⟨wc.heap.size,0,none⟩),.pointer (some ⟨wc.heap.size,10,none⟩),.bool false,u111,.pointer (some ⟨w.heap.size+1,5,none⟩),.slice af r.fl.length cf,.int .i64 (r.fl.length:Int),.int .i64 (r.fl.length:Int),.bool false,u117,u118,u119,u120,u121,u122,u123,u124,u125,s126,s127,s128,s129,s130,s131,s132,s133,s134,s135,s136,s137,s138,s139,s140,s141,s142],defers:=[]}∧R2 w3o.heap.size w3o (w.heap.size+1) wc.heap.size g7 (js ap r.A.length cp) (js ao r.O.length co) (js av (zbg KE r.fl r.fl.length).asks.length cv) (js ax (zbg KE r.fl r.fl.length).outs.length cx) E.sec r.A r.O (f 0) (f 1) (f 2) (f 3) (f 4) (f 5) (f 6) (f 7) (f 8) (f 9) (f 10) (f 11) (f 12) (f 13) (f 14) (f 15) (f 16) (f 17) (f 18) (f 19) s5 s6 s126 s127 s128 s129 s130 s131 s132 s133 s134 s135 s136 s137 s138 s139 s140 s141 s142 W) ?_ ?_ ?_
         ·exact⟨_,_,_,_,_,_,_,_,_,_,_,_,_,_,_,_,_,_,_,rfl,⟨rfl,rfl,rfl,Nat.le_refl _,fun _ _ _=>rfl,fun _=>hr2,by simp,by simp,by simp,by simp,by simp,by simp,by simp,by simp,by simp,by simp,by simp,by simp,by simp,by simp,by simp,by simp,by simp,by simp,by simp,by simp,by simp⟩⟩
         ·intro i o ho f a W hIv hd hun;obtain⟨s5,s6,s126,s127,s128,s129,s130,s131,s132,s133,s134,s135,s136,s137,s138,s139,s140,s141,s142,rfl,hS⟩:=hIv;have hN:=hS.size;have q1:=(hS.block (w.heap.size+1) (by omega) (by omega)).trans hr1;have q7:=(hS.block g7 (by omega) hg7).trans hr7;have qg:=(hS.block wc.heap.size (by omega) (by omega)).trans hrg;have hBW:=HLW W ⟨hS.os,hS.tape,hS.output,hS.size,hS.block⟩;rcases i with _ | _ | _ | _ | _ | _ | _ | _ | _ | _ | _ | _ | _ | _ | _ | _ | _ | _ | _ | _ | i
          ·simp at ho;subst ho;simp[wpOp,go_sem];exact .inl ⟨_,_,_,_,_,_,_,_,_,_,_,_,_,_,_,_,_,_,_,⟨rfl,rfl,rfl,rfl,rfl,rfl,rfl,rfl,rfl,rfl,rfl,rfl,rfl,rfl,rfl,rfl,rfl,rfl,rfl⟩,{hS with h0:=fun _=>rfl}⟩
          ·simp at ho;subst ho;obtain rfl:=hS.h0 (hd ⟨0,.data⟩ (by simp) (by rfl));have cc:jc W (w.heap.size+1) 3 (js ap r.A.length cp):=jr q1;simp[wpOp,go_sem,cc];exact .inl ⟨_,_,_,_,_,_,_,_,_,_,_,_,_,_,_,_,_,_,_,⟨rfl,rfl,rfl,rfl,rfl,rfl,rfl,rfl,rfl,rfl,rfl,rfl,rfl,rfl,rfl,rfl,rfl,rfl,rfl⟩,{hS with h1:=fun _=>rfl}⟩
          ·simp at ho;subst ho;obtain rfl:=hS.h1 (hd ⟨1,.data⟩ (by simp) (by rfl));simp[wpOp,go_sem];refine .inl ((ziu ap cp r.A W (HP _ hBW) (by omega)).mono ?_);rintro e w' ⟨v,rfl,hown,hb⟩;obtain⟨a,c,rfl⟩:=hown.slice;simp[go_sem];exact⟨_,_,_,_,_,_,_,_,_,_,_,_,_,_,_,_,_,_,_,⟨rfl,rfl,rfl,rfl,rfl,rfl,rfl,rfl,rfl,rfl,rfl,rfl,rfl,rfl,rfl,rfl,rfl,rfl,rfl⟩,{R2.below hS hb (by omega)with h2:=fun _=>⟨a,c,rfl,zav hown hN⟩,h12:=fun kk=>by {have e:=(hS.h12 kk).2.1;rw[hun]at e;cases e},h17:=fun kk=>by {have e:=(hS.h12 (hS.hq kk)).2.1;rw[hun]at e;cases e}}⟩
          ·simp at ho;subst ho;simp[wpOp,go_sem];exact .inl ⟨_,_,_,_,_,_,_,_,_,_,_,_,_,_,_,_,_,_,_,⟨rfl,rfl,rfl,rfl,rfl,rfl,rfl,rfl,rfl,rfl,rfl,rfl,rfl,rfl,rfl,rfl,rfl,rfl,rfl⟩,{hS with h3:=fun _=>rfl}⟩
          ·simp at ho;subst ho;obtain rfl:=hS.h3 (hd ⟨3,.data⟩ (by simp) (by rfl));have cc:jc W (w.heap.size+1) 4 (js ao r.O.length co):=jr q1;simp[wpOp,go_sem,cc];exact .inl ⟨_,_,_,_,_,_,_,_,_,_,_,_,_,_,_,_,_,_,_,⟨rfl,rfl,rfl,rfl,rfl,rfl,rfl,rfl,rfl,rfl,rfl,rfl,rfl,rfl,rfl,rfl,rfl,rfl,rfl⟩,{hS with h4:=fun _=>rfl}⟩
          ·simp at ho;subst ho;obtain rfl:=hS.h4 (hd ⟨4,.data⟩ (by simp) (by rfl));simp[wpOp,go_sem];refine .inl ((ziu ao co r.O W (HO _ hBW) (by omega)).mono ?_);rintro e w' ⟨v,rfl,hown,hb⟩;obtain⟨a,c,rfl⟩:=hown.slice;simp[go_sem];exact⟨_,_,_,_,_,_,_,_,_,_,_,_,_,_,_,_,_,_,_,⟨rfl,rfl,rfl,rfl,rfl,rfl,rfl,rfl,rfl,rfl,rfl,rfl,rfl,rfl,rfl,rfl,rfl,rfl,rfl⟩,{R2.below hS hb (by omega)with h5:=fun _=>⟨a,c,rfl,zav hown hN⟩,h12:=fun kk=>by {have e:=(hS.h12 kk).2.2;rw[hun]at e;cases e},h17:=fun kk=>by {have e:=(hS.h12 (hS.hq kk)).2.2;rw[hun]at e;cases e}}⟩
          ·simp at ho;subst ho;simp[wpOp,go_sem];exact .inl ⟨_,_,_,_,_,_,_,_,_,_,_,_,_,_,_,_,_,_,_,⟨rfl,rfl,rfl,rfl,rfl,rfl,rfl,rfl,rfl,rfl,rfl,rfl,rfl,rfl,rfl,rfl,rfl,rfl,rfl⟩,{hS with h6:=fun _=>rfl}⟩
          ·simp at ho;subst ho;obtain rfl:=hS.h6 (hd ⟨6,.data⟩ (by simp) (by rfl));simp[wpOp,go_sem];exact .inl ⟨_,_,_,_,_,_,_,_,_,_,_,_,_,_,_,_,_,_,_,⟨rfl,rfl,rfl,rfl,rfl,rfl,rfl,rfl,rfl,rfl,rfl,rfl,rfl,rfl,rfl,rfl,rfl,rfl,rfl⟩,{hS with h7:=fun _=>rfl}⟩
          ·simp at ho;subst ho;obtain rfl:=hS.h7 (hd ⟨7,.data⟩ (by simp) (by rfl));simp[wpOp,go_sem];exact .inl ⟨_,_,_,_,_,_,_,_,_,_,_,_,_,_,_,_,_,_,_,⟨rfl,rfl,rfl,rfl,rfl,rfl,rfl,rfl,rfl,rfl,rfl,rfl,rfl,rfl,rfl,rfl,rfl,rfl,rfl⟩,{hS with h8:=fun _=>rfl}⟩
          ·simp at ho;subst ho;obtain rfl:=hS.h8 (hd ⟨8,.data⟩ (by simp) (by rfl));have cc:jc W wc.heap.size 8 (js av (zbg KE r.fl r.fl.length).asks.length cv):=jr qg;simp[wpOp,go_sem,cc];exact .inl ⟨_,_,_,_,_,_,_,_,_,_,_,_,_,_,_,_,_,_,_,⟨rfl,rfl,rfl,rfl,rfl,rfl,rfl,rfl,rfl,rfl,rfl,rfl,rfl,rfl,rfl,rfl,rfl,rfl,rfl⟩,{hS with h9:=fun _=>rfl}⟩
          ·simp at ho;subst ho;simp[wpOp,go_sem];exact .inl ⟨_,_,_,_,_,_,_,_,_,_,_,_,_,_,_,_,_,_,_,⟨rfl,rfl,rfl,rfl,rfl,rfl,rfl,rfl,rfl,rfl,rfl,rfl,rfl,rfl,rfl,rfl,rfl,rfl,rfl⟩,{hS with h10:=fun _=>rfl}⟩
          ·simp at ho;subst ho;obtain rfl:=hS.h10 (hd ⟨10,.data⟩ (by simp) (by rfl));have cc:jc W g7 1 E.sec:=jr q7;simp[wpOp,go_sem,cc];exact .inl ⟨_,_,_,_,_,_,_,_,_,_,_,_,_,_,_,_,_,_,_,⟨rfl,rfl,rfl,rfl,rfl,rfl,rfl,rfl,rfl,rfl,rfl,rfl,rfl,rfl,rfl,rfl,rfl,rfl,rfl⟩,{hS with h11:=fun _=>rfl}⟩
          ·simp at ho;subst ho;obtain⟨a2,c2,rfl,o2⟩:=hS.h2 (hd ⟨2,.data⟩ (by simp) (by rfl));obtain⟨a5,c5,rfl,o5⟩:=hS.h5 (hd ⟨5,.data⟩ (by simp) (by rfl));obtain rfl:=hS.h9 (hd ⟨9,.data⟩ (by simp) (by rfl));obtain rfl:=hS.h11 (hd ⟨11,.data⟩ (by simp) (by rfl));simp[wpOp,go_sem];exact .inl ⟨_,_,_,_,_,_,_,_,_,_,_,_,_,_,_,_,_,_,_,⟨rfl,rfl,rfl,rfl,rfl,rfl,rfl,rfl,rfl,rfl,rfl,rfl,rfl,rfl,rfl,rfl,rfl,rfl,rfl⟩,{hS with h12:=fun _=>⟨rfl,(hd ⟨2,.data⟩ (by simp) (by rfl)),(hd ⟨5,.data⟩ (by simp) (by rfl))⟩,hq:=fun _=>rfl,h17:=fun kk=>by {have e:=hS.hq kk;rw[hun]at e;cases e}}⟩
          ·simp at ho;subst ho;simp[wpOp,go_sem];exact .inl ⟨_,_,_,_,_,_,_,_,_,_,_,_,_,_,_,_,_,_,_,⟨rfl,rfl,rfl,rfl,rfl,rfl,rfl,rfl,rfl,rfl,rfl,rfl,rfl,rfl,rfl,rfl,rfl,rfl,rfl⟩,{hS with h13:=fun _=>rfl}⟩
          ·simp at ho;subst ho;obtain rfl:=hS.h13 (hd ⟨13,.data⟩ (by simp) (by rfl));simp[wpOp,go_sem];exact .inl ⟨_,_,_,_,_,_,_,_,_,_,_,_,_,_,_,_,_,_,_,⟨rfl,rfl,rfl,rfl,rfl,rfl,rfl,rfl,rfl,rfl,rfl,rfl,rfl,rfl,rfl,rfl,rfl,rfl,rfl⟩,{hS with h14:=fun _=>rfl}⟩
          ·simp at ho;subst ho;obtain rfl:=hS.h14 (hd ⟨14,.data⟩ (by simp) (by rfl));simp[wpOp,go_sem];exact .inl ⟨_,_,_,_,_,_,_,_,_,_,_,_,_,_,_,_,_,_,_,⟨rfl,rfl,rfl,rfl,rfl,rfl,rfl,rfl,rfl,rfl,rfl,rfl,rfl,rfl,rfl,rfl,rfl,rfl,rfl⟩,{hS with h15:=fun _=>rfl}⟩
          ·simp at ho;subst ho;obtain rfl:=hS.h15 (hd ⟨15,.data⟩ (by simp) (by rfl));have cc:jc W wc.heap.size 9 (js ax (zbg KE r.fl r.fl.length).outs.length cx):=jr qg;simp[wpOp,go_sem,cc];exact .inl ⟨_,_,_,_,_,_,_,_,_,_,_,_,_,_,_,_,_,_,_,⟨rfl,rfl,rfl,rfl,rfl,rfl,rfl,rfl,rfl,rfl,rfl,rfl,rfl,rfl,rfl,rfl,rfl,rfl,rfl⟩,{hS with h16:=fun _=>rfl}⟩
          ·simp at ho;subst ho;obtain⟨rfl,k2,k5⟩:=hS.h12 (hd ⟨12,.data⟩ (by simp) (by rfl));obtain⟨a2,c2,rfl,o2⟩:=hS.h2 k2;obtain⟨a5,c5,rfl,o5⟩:=hS.h5 k5;have hz:=hS.zb hun;obtain⟨cc0,cc1,cc2,cc3⟩:=zfv hz;have hf:=(by simp[World.frozen?,hz]: ∀o,W.frozen? ⟨w.heap.size+1+1,o,none⟩=false);simp[wpOp,go_sem,cc0,cc1,cc2,cc3,hf];exact .inl ⟨_,_,_,_,_,_,_,_,_,_,_,_,_,_,_,_,_,_,_,⟨rfl,rfl,rfl,rfl,rfl,rfl,rfl,rfl,rfl,rfl,rfl,rfl,rfl,rfl,rfl,rfl,rfl,rfl,rfl⟩,{hS with size:=by simpa [World.setCell]using hS.size,block:=fun b k1 k2=>by {refine Eq.trans ?_ (hS.block b k1 k2);simp only[World.setCell,Array.getElem?_modify,if_neg (fun e=>k2 (Eq.symm e))]},zb:=fun kk=>by {simp at kk},h2:=fun _=>⟨a2,c2,rfl,(zag (zag (zag (zag o2 (by simp;omega) _) (by simp;omega) _) (by simp;omega) _) (by simp;omega) _)⟩,h5:=fun _=>⟨a5,c5,rfl,(zag (zag (zag (zag o5 (by simp;omega) _) (by simp;omega) _) (by simp;omega) _) (by simp;omega) _)⟩,h17:=fun _=>by {simp[World.setCell,Array.getElem?_modify,hz]},hq:=fun _=>hd ⟨12,.data⟩ (by simp) (by rfl)}⟩
          ·simp at ho;subst ho;obtain rfl:=hS.h16 (hd ⟨16,.data⟩ (by simp) (by rfl));simp[wpOp,go_sem];exact .inl ⟨_,_,_,_,_,_,_,_,_,_,_,_,_,_,_,_,_,_,_,⟨rfl,rfl,rfl,rfl,rfl,rfl,rfl,rfl,rfl,rfl,rfl,rfl,rfl,rfl,rfl,rfl,rfl,rfl,rfl⟩,{hS with h18:=fun _=>rfl}⟩
          ·simp at ho;subst ho;simp[wpOp,go_sem];exact .inl ⟨_,_,_,_,_,_,_,_,_,_,_,_,_,_,_,_,_,_,_,⟨rfl,rfl,rfl,rfl,rfl,rfl,rfl,rfl,rfl,rfl,rfl,rfl,rfl,rfl,rfl,rfl,rfl,rfl,rfl⟩,{hS with h19:=fun _=>rfl}⟩
          ·simp at ho
         ·intro f a W hIv hall;obtain⟨s5,s6,s126,s127,s128,s129,s130,s131,s132,s133,s134,s135,s136,s137,s138,s139,s140,s141,s142,rfl,hS⟩:=hIv;have e5:=hS.h18 (hall 18 (by decide));have e6:=hS.h19 (hall 19 (by decide));obtain⟨a2,c2,e2,o2⟩:=hS.h2 (hall 2 (by decide));obtain⟨a5,c5,e5',o5⟩:=hS.h5 (hall 5 (by decide));have hz:=hS.h17 (hall 17 (by decide));rw[e2,e5']at hz;have KB:=hI (HLW W ⟨hS.os,hS.tape,hS.output,hS.size,hS.block⟩);have KA:Hid (AskOwn W w.heap.size (js av (zbg KE r.fl r.fl.length).asks.length cv) (zbg KE r.fl r.fl.length).asks):=zav (zkp HWR.asks (fun k k1 k2=>hS.block k k2 (by omega))) (by omega);have KX:Hid (JnOwn W w.heap.size (js ax (zbg KE r.fl r.fl.length).outs.length cx) (zbg KE r.fl r.fl.length).outs):=zav (zkp HWR.outs (fun k k1 k2=>hS.block k k2 (by omega))) (by omega);have K2:Hid (IntOwn W w.heap.size (js a2 r.A.length c2) r.A):=zav o2 (by omega);have K5:Hid (IntOwn W w.heap.size (js a5 r.O.length c5) r.O):=zav o5 (by omega);obtain⟨q0,q1,q2,q3⟩:=zfv hz;have HKO:Hid ((zbg KE r.fl r.fl.length).outs=zbk p r):=(by show _=_;rw[zma,←hKE];rfl);have HNR:Hid (E.sec=(zao p r).near):=(by show _=(zbe p r.E).sec;rw[HEE.out]);have HAS:Hid ((zbg KE r.fl r.fl.length).asks=(zao p r).asks):=(by show _=(zjv p r).asks;rw[HKA.out]);subst e5 e6;clear hS hall hz e2 e5' o2 o5 hr1 hr2 hr7 hrg;go_wp2_with fail;refine bodyPost_ret (v:= .tuple #[.agg #[js a2 r.A.length c2,js a5 r.O.length c5,js av (zbg KE r.fl r.fl.length).asks.length cv,E.sec],js ax (zbg KE r.fl r.fl.length).outs.length cx,.int .i64 0]) (by simp[results,Tryz.f209,go_sem,q0,q1,q2,q3]) rfl ⟨KB,.inr ⟨by rw[hKE];exact HLL,_,_,_,_,by rw[←HNR.out],K2,K5,?_,?_⟩⟩
          ·rw[←HAS.out];exact KA
          ·rw[←HKO.out];exact KX
end Go.Proofs.YtbiehpjhhopjaaaGreat
