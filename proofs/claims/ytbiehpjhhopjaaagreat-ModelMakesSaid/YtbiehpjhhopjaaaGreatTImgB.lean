/-
 state.Of,walked.
-/
import Derived.Test.YtbiehpjhhopjaaaGreatTStateE
import Derived.Great.BuildSlice
import Derived.Test.YtbiehpjhhopjaaaGreatTConcat
import Derived.Shelf.SortM.Plain
import Derived.Shelf.SortM.SortNone
import Derived.Ground.SlgmProg
import Derived.Shelf.Slices.CompactI
import Derived.Ground.Names2Prog
import Derived.Sort.OwnSortedInts
import Derived.Lib.RowBridge
import Derived.Test.YtbiehpjhhopjaaaGreatTSameOwn
import Derived.Test.YtbiehpjhhopjaaaGreatTAtA
import Derived.Test.YtbiehpjhhopjaaaGreatTStateB
import Derived.Deep.LoopGhost
import Derived.Deep.Light
import Derived.StillTailTactics
set_option linter.unusedVariables false
set_option linter.unusedSimpArgs false
set_option maxRecDepth 100000
set_option maxHeartbeats 16000000
namespace Go.Proofs.YtbiehpjhhopjaaaGreat
open Go.RowKit Go.Maps Go.Sort
def zbu (p:Pl) (st:St):Int:=if zaj p then(if zdi p st then 0 else 8)else 100
def zi1 (w:World) (p:Pl) (st:St) (e:Ending) (w':World):Prop:=
 jb w w'∧ ∃cs H A a l c,e= .returned (.tuple #[.agg cs,.int .i64 (zbu p st)])∧GArr cs H A (js a l c)∧(zbu p st=0→H=(zf4 p st).H∧A=(zf4 p st).A)
theorem zkz {fn:Func}{p q:Tmp}(h:fn.results=#[.cell p 171,.tmp q]) (tmps:Array Value) (w:World) (g:Nat) (cs:Array Value) (n:Int)
  (hp:tmps.getD p undef= .pointer (some ⟨g,0,none⟩)) (hq:tmps.getD q undef= .int .i64 n) (hl:(loadVar 171 ⟨g,0,none⟩).run Tryz.prog w= .ok (.agg cs) w):
  (results fn tmps).run Tryz.prog w= .ok (.tuple #[.agg cs,n]) w:=by
 have hp':tmps[p]?.getD undef= .pointer (some ⟨g,0,none⟩):=by simpa using hp
 have hq':tmps[q]?.getD undef= .int .i64 n:=by simpa using hq
 simp[results,h,hp',hq',asAddr,hl]
theorem znd (w:World) (c0 cs:Array Value) (T:TypeId):(w.alloc (.cells c0 T)).setRow w.heap.size cs=w.alloc (.cells cs T):=by
 have:(w.heap.push (.cells c0 T (0,0))).modify w.heap.size (fun | .cells _ elem frozen=> .cells cs elem frozen | o=>o)=w.heap.push (.cells cs T (0,0)):=by
  apply Array.ext
  ·simp
  ·intro i h1 h2;rw[Array.getElem_modify];rw[Array.getElem_push,Array.getElem_push];split
   ·rename_i e;subst e;simp
   ·rename_i e
    rw[dif_pos (by simp at h2;omega),dif_pos (by simp at h2;omega)]
 show({w with heap:=_}:World)={w with heap:=_};exact congrArg (fun h=>({w with heap:=h}:World)) this
theorem zu9 {w:World}{g:Nat}{c0:Array Value}{T:TypeId}{fr:Nat × Nat}(h:w.heap[g]? =some (.cells c0 T fr)) (cs:Array Value):(w.setRow g cs).heap[g]? =some (.cells cs T fr):=by
 simp[World.setRow,Array.getElem?_modify,h]
theorem zva {B g:Nat}{w0 w:World}(hb:Below B w0 w) (hBg:B≤g) (cs:Array Value):Below B w0 (w.setRow g cs):=
 ⟨hb.os,hb.tape,hb.output,by rw[size_setRow];exact hb.size,fun k hk=>by
  rw[show(w.setRow g cs).heap[k]? =w.heap[k]? by simp[World.setRow,Array.getElem?_modify,show¬g=k by omega]]
  exact hb.block k hk⟩
structure Box3 (W:World) (g:Nat) (p:Pl) (st:St) (s q gg rr t sw lk:Value):Prop where
 pl:jk W g #[p.ver,p.par,s,q,gg,rr] 28
 st:jk W (g+1) #[t,sw,lk] 33
theorem Box3.below {W W':World}{g:Nat}{p:Pl}{st:St}{s q gg rr t sw lk:Value}(h:Box3 W g p st s q gg rr t sw lk) (hb:jb W W'):Box3 W' g p st s q gg rr t sw lk:=
 ⟨(jm hb h.pl),(jm hb h.st)⟩
theorem zvb (p:Pl) (st:St) (s q gg rr t sw lk:Value) (w:World) (hp:PlM w s q gg rr p) (hf:p.Fit) (hs:StM w t sw lk st) (hsf:st.fit):
  Calls Tryz.prog 115 #[plV p s q gg rr,stV t sw lk] w (zi1 w p st):=by
 have HCK:Hid (∀w',jb w w'→Calls Tryz.prog 58 #[plV p s q gg rr] w' (zdz w' (if zaj p then 0 else 100))):=fun w' hb=>ziv p s q gg rr w' (hp.below hb) hf;have HGR:Hid (zaj p→ ∀w',jb w w'→Calls Tryz.prog 205 #[plV p s q gg rr,stV t sw lk] w' (znc w' p st)):=fun hS w' hb=>zu8 p st s q gg rr t sw lk w' (hp.below hb) hf (hs.below hb) hsf hS;obtain⟨a1,c1,rfl,-⟩:=hp.S;obtain⟨a2,c2,rfl,-⟩:=hp.P;obtain⟨a3,c3,rfl,-⟩:=hp.G;obtain⟨a4,c4,rfl,-⟩:=hp.R;obtain⟨b1,d1,rfl,-⟩:=hs.tks;obtain⟨b2,d2,rfl,-⟩:=hs.sws;obtain⟨b3,d3,rfl,-⟩:=hs.lks
 have HE:Hid (∀n:Int,(¬zaj p→n=100)→(zaj p→ ¬zdi p st→n=8)→(zaj p→zdi p st→n=0)→zbu p st=n):=fun n h1 h2 h3=>by
  unfold zbu;by_cases h:zaj p
  ·rw[if_pos h];by_cases h':zdi p st
   ·rw[if_pos h',h3 h h']
   ·rw[if_neg h',h2 h h']
  ·rw[if_neg h,h1 h]
 generalize hEE:zbu p st=E at *;unfold zi1;rw[hEE];clear hp hf hs hsf hEE;unfold plV stV at *;go_enter Tryz.func115,Tryz.ntmps115;go_upto_region 1 with fail;generalize hW0:World.alloc _ _=W0;have K0:Hid (jb w W0):=by show Below _ _ _;rw[←hW0];exact(jal.alloc (by simp) _).alloc (by simp<;>omega) _
 have hbP:Box3 W0 w.heap.size p st (js a1 p.S.length c1) (js a2 p.P.length c2) (js a3 p.G.length c3) (js a4 p.R.length c4) (js b1 st.tks.length d1) (js b2 st.sws.length d2) (js b3 st.lks.length d3):=by
  rw[←hW0];exact⟨(heap_alloc_old _ _ (by simp<;>omega)).trans ((heap_alloc_old _ _ (by simp)).trans (heap_alloc_new _ _)),(heap_alloc_old _ _ (by simp)).trans (heap_alloc2_new _ _ _)⟩
 have hbG:jk W0 (w.heap.size+1+1) Tryz.zeroCells171 171:=by
  rw[←hW0];have:=heap_alloc2_new (w.alloc (.cells #[p.ver,p.par,js a1 p.S.length c1,js a2 p.P.length c2,js a3 p.G.length c3,js a4 p.R.length c4] 28)) (.cells #[js b1 st.tks.length d1,js b2 st.sws.length d2,js b3 st.lks.length d3] 33) (.cells Tryz.zeroCells171 171)
  simpa using this
 have HBP:=hI hbP;have HBG:=hI hbG;have HY:Hid (∀(W':World) (o:Nat) (v:Value),W'.heap[w.heap.size]? =W0.heap[w.heap.size]? →#[Value.int .i64 p.ver,p.par,js a1 p.S.length c1,js a2 p.P.length c2,js a3 p.G.length c3,js a4 p.R.length c4][o]? =some v→jc W' w.heap.size o v):=fun W' o v ht h=>(cell_of_row W' _ o _ _ _ (ht.trans hbP.pl)).trans h;clear hW0 hbP hbG;have pp0:=HY W0 0 _ rfl rfl;have pp1:=HY W0 1 _ rfl rfl;have pp2:=HY W0 2 _ rfl rfl;have pp3:=HY W0 3 _ rfl rfl;have pp4:=HY W0 4 _ rfl rfl;have pp5:=HY W0 5 _ rfl rfl;go_wp2_with fail;refine(HCK W0 K0).mono ?_;rintro e w1 ⟨rfl,hb1⟩;have K1:=jh K0 hb1;have HG1:Hid (jk w1 (w.heap.size+1+1) Tryz.zeroCells171 171):=jm hb1 HBG;have HBP1:=hI (HBP.below hb1);clear hb1 HCK pp0 pp1 pp2 pp3 pp4 pp5;by_cases hS:zaj p
 ·rw[if_pos hS];have HS:=hI hS;have HGC:=hI (HGR hS w1 K1);clear hS HGR;obtain⟨pp0,pp1,pp2,pp3,pp4,pp5⟩:=zan HBP1.pl;obtain⟨ss0,ss1,ss2⟩:=zap HBP1.st;go_wp2_with fail;refine HGC.mono ?_;rintro e w2 ⟨hb2,cs,H,A,a,l,c,b,rfl,hga,hor⟩;have K2:=jh K1 hb2;have HG2:Hid (jk w2 (w.heap.size+1+1) Tryz.zeroCells171 171):=jm hb2 HG1;have HGA:=hI hga;have HOR:=hI hor;clear hga hor hb2 HGC pp0 pp1 pp2 pp3 pp4 pp5 ss0 ss1 ss2;have hz1:(Tryz.prog.info? 171).map (·.size)=some Tryz.zeroCells171.size:=by rw[zer,garr_zero.size]
  have hz2:(Tryz.prog.info? 171).map (·.size)=some cs.size:=by rw[zer,HGA.out.size]
  have hzz:Tryz.zeroCells171.size=cs.size:=by rw[garr_zero.size,HGA.out.size]
  have l2:=zad HG2;go_upto_region 5 with(refine zbh rfl 171 (.tmp 7) (.tmp 19) rfl w2.heap.size cs Tryz.zeroCells171 171 rfl rfl (heap_alloc_new _ _) hz2 hzz HGA.one ?_;rw[znd]);generalize hWX:w2.alloc (.cells cs 171)=WX;have hb3:jb w2 WX:=by rw[←hWX];exact jal
  have KX:=jh K2 hb3;have HGX:Hid (jk WX (w.heap.size+1+1) Tryz.zeroCells171 171):=(hb3.block _ l2).trans HG2;have HCX:Hid (jk WX w2.heap.size cs 171):=by show _=_;rw[←hWX];exact heap_alloc_new _ _
  clear hWX hb3 HG2 HG1;rcases HOR.out with⟨rfl,hn⟩ | ⟨rfl,hm,h1,h2⟩
  ·have HE8:Hid (E=8):=HE 8 (fun h=>absurd HS.out h) (fun _ _=>rfl) (fun _ h=>absurd h hn);clear hn HOR
   go_wp2_with (first
    | (refine wpList_buildTo rfl 171 #[] rfl (some 23) rfl Tryz.zeroCells171 (by kernel_rfl) ?_)
    | (refine zbh rfl 171 (.tmp 4) (.tmp 23) rfl (w.heap.size+1+1) Tryz.zeroCells171 Tryz.zeroCells171 171 rfl rfl HGX hz1 rfl garr_zero.one ?_;rw[zg5 HGX.out]))
   refine bodyPost_ret (v:= .tuple #[.agg Tryz.zeroCells171,.int .i64 8]) (zkz rfl _ _ (w.heap.size+1+1) _ _ rfl rfl (zgn HGX garr_zero.size)) rfl ⟨KX,_,_,_,_,_,_,by rw[HE8.out],garr_zero,fun h=>by rw[HE8.out]at h;cases h⟩
  ·have HE8:Hid (E=0):=HE 0 (fun h=>absurd HS.out h) (fun _ h=>absurd hm h) (fun _ _=>rfl);have H1:=hI h1;have H2:=hI h2;clear hm h1 h2 HOR
   go_wp2_with (first
    | (refine wpList_load_row rfl 171 (.tmp 7) rfl w2.heap.size rfl 171 cs (0,0) _ HCX Tryz.underlying171 rfl hz2 ?_)
    | (refine zbh rfl 171 (.tmp 4) (.tmp 24) rfl (w.heap.size+1+1) cs Tryz.zeroCells171 171 rfl rfl HGX hz2 hzz HGA.one ?_))
   refine bodyPost_ret (v:= .tuple #[.agg cs,.int .i64 0]) (zkz rfl _ _ (w.heap.size+1+1) _ _ rfl rfl (zgn (zu9 HGX cs) HGA.size)) rfl ⟨zva KX (by omega) _,_,_,_,_,_,_,by rw[HE8.out],HGA,fun _=>⟨H1,H2⟩⟩
 ·rw[if_neg hS];have HS:=hI hS;clear hS HGR;have HE8:Hid (E=100):=HE 100 (fun _=>rfl) (fun h=>absurd h HS) (fun h=>absurd h HS);have hz1:(Tryz.prog.info? 171).map (·.size)=some Tryz.zeroCells171.size:=by rw[zer,garr_zero.size]
  go_wp2_with (first
   | (refine wpList_buildTo rfl 171 #[] rfl (some 13) rfl Tryz.zeroCells171 (by kernel_rfl) ?_)
   | (refine zbh rfl 171 (.tmp 4) (.tmp 13) rfl (w.heap.size+1+1) Tryz.zeroCells171 Tryz.zeroCells171 171 rfl rfl HG1 hz1 rfl garr_zero.one ?_;rw[zg5 HG1.out]))
  refine bodyPost_ret (v:= .tuple #[.agg Tryz.zeroCells171,.int .i64 100]) (zkz rfl _ _ (w.heap.size+1+1) _ _ rfl rfl (zgn HG1 garr_zero.size)) rfl ⟨K1,_,_,_,_,_,_,by rw[HE8.out],garr_zero,fun h=>by rw[HE8.out]at h;cases h⟩
theorem zne {p:Pl}{st:St}(h:zbu p st=0):zaj p∧zdi p st:=by
 unfold zbu at h;by_cases h1:zaj p
 ·rw[if_pos h1]at h;by_cases h2:zdi p st
  ·exact⟨h1,h2⟩
  ·rw[if_neg h2]at h;cases h
 ·rw[if_neg h1]at h;cases h
theorem znf (p:Pl) (st:St) (s q gg rr t sw lk:Value) (w:World) (hp:PlM w s q gg rr p) (hf:p.Fit) (hs:StM w t sw lk st) (hsf:st.fit):
  Calls Tryz.prog 87 #[plV p s q gg rr,stV t sw lk] w (zdz w (zbu p st)):=by
 have HOF:Hid (∀w',jb w w'→Calls Tryz.prog 115 #[plV p s q gg rr,stV t sw lk] w' (zi1 w' p st)):=fun w' hb=>zvb p st s q gg rr t sw lk w' (hp.below hb) hf (hs.below hb) hsf;obtain⟨a1,c1,rfl,-⟩:=hp.S;obtain⟨a2,c2,rfl,-⟩:=hp.P;obtain⟨a3,c3,rfl,-⟩:=hp.G;obtain⟨a4,c4,rfl,-⟩:=hp.R;obtain⟨b1,d1,rfl,-⟩:=hs.tks;obtain⟨b2,d2,rfl,-⟩:=hs.sws;obtain⟨b3,d3,rfl,-⟩:=hs.lks;clear hp hf hs hsf;unfold zi1 at HOF;generalize zbu p st=E at *;unfold plV stV at *;go_enter Tryz.func87,Tryz.ntmps87;go_upto_region 1 with fail;generalize hW0:World.alloc _ _=W0;have K0:Hid (jb w W0):=by show Below _ _ _;rw[←hW0];exact jal.alloc (by simp) _
 have hbP:jk W0 w.heap.size #[p.ver,p.par,js a1 p.S.length c1,js a2 p.P.length c2,js a3 p.G.length c3,js a4 p.R.length c4] 28:=by
  rw[←hW0];exact(heap_alloc_old _ _ (by simp)).trans (heap_alloc_new _ _)
 have hbS:jk W0 (w.heap.size+1) #[js b1 st.tks.length d1,js b2 st.sws.length d2,js b3 st.lks.length d3] 33:=by
  rw[←hW0];exact heap_alloc2_new _ _ _
 obtain⟨pp0,pp1,pp2,pp3,pp4,pp5⟩:=zan hbP;obtain⟨ss0,ss1,ss2⟩:=zap hbS;clear hW0 hbP hbS;have HC:=hI (HOF W0 K0);clear HOF;go_wp2_with fail;refine HC.mono ?_;rintro e w1 ⟨hb1,cs,H,A,a,l,c,rfl,hga,-⟩;have K1:=jh K0 hb1;have HGA:=hI hga;have hz2:(Tryz.prog.info? 171).map (·.size)=some cs.size:=by rw[zer,HGA.out.size]
 have hzz:Tryz.zeroCells171.size=cs.size:=by rw[garr_zero.size,HGA.out.size]
 clear hga hb1 HC pp0 pp1 pp2 pp3 pp4 pp5 ss0 ss1 ss2;go_wp2_with (refine zbh rfl 171 (.tmp 5) (.tmp 11) rfl w1.heap.size cs Tryz.zeroCells171 171 rfl rfl (heap_alloc_new _ _) hz2 hzz HGA.one ?_;rw[znd]);go_ret;exact⟨rfl,K1.alloc K1.size _⟩
theorem zk0 {W:World}{g o:Nat}{cs:Array Value}{u:Value}{T:TypeId}{fr:Nat × Nat}(h:W.heap[g]? =some (.cells cs T fr)) (hu:cs[o]? =some u):W.setCell ⟨g,o,none⟩ u=W:=by
 have:(W.setCell ⟨g,o,none⟩ u).heap=W.heap:=by
  apply Array.ext
  ·simp[World.setCell]
  ·intro i h1 h2
   have:(W.setCell ⟨g,o,none⟩ u).heap[i]? =W.heap[i]? :=by
    by_cases e:i=g
    ·subst e
     have hs:cs.setIfInBounds o u=cs:=by
      apply Array.ext
      ·simp
      ·intro j k1 k2;rw[Array.getElem_setIfInBounds];split
       ·rename_i e;subst e;rw[Array.getElem?_eq_getElem k2]at hu;exact(Option.some.inj hu).symm
       ·rfl
     simp[World.setCell,Array.getElem?_modify,h,hs]
    ·exact Below.heap_setCell W ⟨g,o,none⟩ u i e
   rw[Array.getElem?_eq_getElem h1,Array.getElem?_eq_getElem h2]at this;exact Option.some.inj this
 show({W with heap:=_}:World)=W;cases W;simp only[World.mk.injEq,and_true];exact this
structure R38 (w0:World) (KV A0 A1 A2 A3:Value) (ga gr:Nat) (L0 L1 L2 L3:List Int) (f0 f1 f2 f3 f4 f5 f6 f7 f8 f9 f10 f11 f12 f13 f14 f15 f16 f17 f18 f19 f20 f21 f22:Bool) (s20 s21 s22 s23 s24 s25 s26 s27 s28 s29 s30 s31 s32 s33 s34 s35 s36 s37 s38 s39 s40:Value) (W:World):Prop where
 tw:Tw gr gr w0 W
 hx:f21=true→f20=true
 hz:f21=false→jk W gr #[.slice none 0 0,.slice none 0 0,.slice none 0 0,.slice none 0 0] 56
 h0:f0=true→s20=KV
 h1:f1=true→s21= .func (.func 92) #[KV] #[]
 h2:f2=true→s22= .pointer (some ⟨ga,0,none⟩)
 h3:f3=true→s23=A0
 h4:f4=true→f21=false→ ∃a l c,s24= .slice a l c∧ILv W (js a l c) L0
 h5:f5=true→s25=KV
 h6:f6=true→s26= .func (.func 93) #[KV] #[]
 h7:f7=true→s27= .pointer (some ⟨ga,1,none⟩)
 h8:f8=true→s28=A1
 h9:f9=true→f21=false→ ∃a l c,s29= .slice a l c∧ILv W (js a l c) L1
 h10:f10=true→s30=KV
 h11:f11=true→s31= .func (.func 94) #[KV] #[]
 h12:f12=true→s32= .pointer (some ⟨ga,2,none⟩)
 h13:f13=true→s33=A2
 h14:f14=true→f21=false→ ∃a l c,s34= .slice a l c∧ILv W (js a l c) L2
 h15:f15=true→s35=KV
 h16:f16=true→s36= .func (.func 95) #[KV] #[]
 h17:f17=true→s37= .pointer (some ⟨ga,3,none⟩)
 h18:f18=true→s38=A3
 h19:f19=true→f21=false→ ∃a l c,s39= .slice a l c∧ILv W (js a l c) L3
 h20:f20=true→f21=false→ ∃a0' l0' c0' a1' l1' c1' a2' l2' c2' a3' l3' c3',s40= .agg #[js a0' l0' c0',js a1' l1' c1',js a2' l2' c2',js a3' l3' c3']∧AL W (js a0' l0' c0') (js a1' l1' c1') (js a2' l2' c2') (js a3' l3' c3') ⟨L0,L1,L2,L3⟩
 h21:f21=true→ ∃a0' l0' c0' a1' l1' c1' a2' l2' c2' a3' l3' c3',jk W gr #[js a0' l0' c0',js a1' l1' c1',js a2' l2' c2',js a3' l3' c3'] 56∧AL W (js a0' l0' c0') (js a1' l1' c1') (js a2' l2' c2') (js a3' l3' c3') ⟨L0,L1,L2,L3⟩
theorem R38.below {w0:World}{KV A0 A1 A2 A3:Value}{ga gr:Nat}{L0 L1 L2 L3:List Int}{f0 f1 f2 f3 f4 f5 f6 f7 f8 f9 f10 f11 f12 f13 f14 f15 f16 f17 f18 f19 f20 f21 f22:Bool}{s20 s21 s22 s23 s24 s25 s26 s27 s28 s29 s30 s31 s32 s33 s34 s35 s36 s37 s38 s39 s40:Value}{W W':World}(h:R38 w0 KV A0 A1 A2 A3 ga gr L0 L1 L2 L3 f0 f1 f2 f3 f4 f5 f6 f7 f8 f9 f10 f11 f12 f13 f14 f15 f16 f17 f18 f19 f20 f21 f22 s20 s21 s22 s23 s24 s25 s26 s27 s28 s29 s30 s31 s32 s33 s34 s35 s36 s37 s38 s39 s40 W) (hb:jb W W'):R38 w0 KV A0 A1 A2 A3 ga gr L0 L1 L2 L3 f0 f1 f2 f3 f4 f5 f6 f7 f8 f9 f10 f11 f12 f13 f14 f15 f16 f17 f18 f19 f20 f21 f22 s20 s21 s22 s23 s24 s25 s26 s27 s28 s29 s30 s31 s32 s33 s34 s35 s36 s37 s38 s39 s40 W':=
 {h with
  tw:=h.tw.trans (Tw.of_below hb)
  hz:=fun k=>(hb.block _ (zad (h.hz k))).trans (h.hz k)
  h4:=fun k1 k2=>by
   obtain⟨a,l,c,h1,h2⟩:=h.h4 k1 k2;exact⟨a,l,c,h1,h2.below hb⟩
  h9:=fun k1 k2=>by
   obtain⟨a,l,c,h1,h2⟩:=h.h9 k1 k2;exact⟨a,l,c,h1,h2.below hb⟩
  h14:=fun k1 k2=>by
   obtain⟨a,l,c,h1,h2⟩:=h.h14 k1 k2;exact⟨a,l,c,h1,h2.below hb⟩
  h19:=fun k1 k2=>by
   obtain⟨a,l,c,h1,h2⟩:=h.h19 k1 k2;exact⟨a,l,c,h1,h2.below hb⟩
  h20:=fun k1 k2=>by
   obtain⟨a0',l0',c0',a1',l1',c1',a2',l2',c2',a3',l3',c3',h1,h2⟩:=h.h20 k1 k2;exact⟨a0',l0',c0',a1',l1',c1',a2',l2',c2',a3',l3',c3',h1,h2.below hb⟩
  h21:=fun k1=>by
   obtain⟨a0',l0',c0',a1',l1',c1',a2',l2',c2',a3',l3',c3',h1,h2⟩:=h.h21 k1
   exact⟨a0',l0',c0',a1',l1',c1',a2',l2',c2',a3',l3',c3',(jm hb h1),h2.below hb⟩}
theorem ILv.off {W W':World}{v:Value}{l:List Int}{gr:Nat}(h:ILv W v l) (hz:jk W gr #[.slice none 0 0,.slice none 0 0,.slice none 0 0,.slice none 0 0] 56) (hk: ∀k,k≠gr→W'.heap[k]? =W.heap[k]?):ILv W' v l:=by
 obtain⟨a,n,c,rfl,hl⟩:=h;refine⟨a,n,c,rfl,hl.len,fun i hi=> ?_⟩;obtain⟨b,off,e,hc⟩:=hl.cell i hi;refine⟨b,off,e,(World.cell?_of_block (w:=W) (hk b ?_)).trans hc⟩;intro e2;subst e2;rw[cell_of_row W _ _ _ _ _ hz]at hc;rcases(show off+i=0∨off+i=1∨off+i=2∨off+i=3∨4≤off+i by omega)with h | h | h | h | h
 ·rw[h]at hc;simp at hc
 ·rw[h]at hc;simp at hc
 ·rw[h]at hc;simp at hc
 ·rw[h]at hc;simp at hc
 ·rw[Array.getElem?_eq_none (by simpa using h)]at hc;cases hc
theorem AL.off {W W':World}{v1 v2 v3 v4:Value}{x:Ar}{gr:Nat}(h:AL W v1 v2 v3 v4 x) (hz:jk W gr #[.slice none 0 0,.slice none 0 0,.slice none 0 0,.slice none 0 0] 56) (hk: ∀k,k≠gr→W'.heap[k]? =W.heap[k]?):AL W' v1 v2 v3 v4 x:=
 ⟨h.s.off hz hk,h.p.off hz hk,h.g.off hz hk,h.r.off hz hk⟩
theorem zg6 (W:World) (g i:Nat) (u:Value):W.grownBy (W.setCell ⟨g,i,none⟩ u) (some g):=
 ⟨rfl,rfl,rfl,by simp[World.setCell],fun k _ h=>Below.heap_setCell W _ u k (fun e=>h (by rw[e]))⟩
theorem zk1 {W:World}{base g n cap sz:Nat}{e:TypeId}{xs:List Value}(h:W.ownsRow base e sz (jq g 0 n cap) n xs){i:Nat}(hi:i<xs.length) (u:Value):
  (W.setCell ⟨g,i,none⟩ u).ownsRow base e sz (jq g 0 n cap) n (xs.set i u):=by
 refine⟨by rw[List.length_set];exact h.1,?_⟩;rcases h.2 with⟨h1,_⟩ | ⟨g',cap',cur,he,hbg,hgb,r1,r2,r3,r4⟩
 ·cases h1
 ·cases he;refine .inr ⟨g,cap,cur.setIfInBounds i u,rfl,hbg,by simp[World.setCell,Array.getElem?_modify,hgb],r1,r2,by simp[r3],?_⟩;rw[←r4,Array.toList_setIfInBounds,List.take_set]
theorem StOwn.setTk {W:World}{N g n cap:Nat}{s l:Value}{x:St}(h:StOwn W N (jq g 0 n cap) s l x){i:Nat}(hi:i<(x.tks.flatMap tkC).length) (u:Value) (y:List Tk) (hy:y.length=x.tks.length) (hyc:y.flatMap tkC=(x.tks.flatMap tkC).set i u) (hn:n=x.tks.length):
  StOwn (W.setCell ⟨g,i,none⟩ u) N (jq g 0 n cap) s l ⟨y,x.sws,x.lks⟩:=by
 subst hn;refine⟨?_,h.sws.kept (zg6 W g i u) ?_,h.lks.kept (zg6 W g i u) ?_⟩
 ·show World.ownsRow _ _ _ _ _ y.length (y.flatMap tkC);rw[hy,hyc];exact zk1 h.tks hi u
 ·rcases zdx h.sws h.tks (by decide)with h | h
  ·exact .inl h
  ·exact .inr h
 ·rcases zdx h.lks h.tks (by decide)with h | h
  ·exact .inl h
  ·exact .inr h
structure R43 (w0:World) (SV:Value) (L:List Int) (B:Bool) (n:Int) (f0 f1 f2 f3 f4 f5 f6 f7 f8 f9:Bool) (s0 s1 s2 s3 s4 s5 s6 s7 s8 s9:Value) (W:World):Prop where
 bel:jb w0 W
 h0:f0=true→ ∃a1 c1 a2 c2 a3 c3 a4 c4,s0=plV stn (js a1 stn.S.length c1) (js a2 stn.P.length c2) (js a3 stn.G.length c3) (js a4 stn.R.length c4)∧PlM W (js a1 stn.S.length c1) (js a2 stn.P.length c2) (js a3 stn.G.length c3) (js a4 stn.R.length c4) stn
 h1:f1=true→s1=SV
 h2:f2=true→ ∃b,s2= .slice (some ⟨b,0,none⟩) L.length L.length∧IL W (some ⟨b,0,none⟩) L.length L
 h3:f3=true→ ∃b,s3= .agg #[jq b 0 L.length L.length,.slice none 0 0,.slice none 0 0,.slice none 0 0]∧IL W (some ⟨b,0,none⟩) L.length L
 h4:f4=true→s4= .tuple #[.bool B,n]
 h5:f5=true→s5= .tuple #[.bool B,n]
 h6:f6=true→s6= .bool B
 h7:f7=true→s7= .int .i64 n
 h8:f8=true→s8= .bool B
 h9:f9=true→s9= .int .i64 n
theorem R43.below {w0:World}{SV:Value}{L:List Int}{B:Bool}{n:Int}{f0 f1 f2 f3 f4 f5 f6 f7 f8 f9:Bool}{s0 s1 s2 s3 s4 s5 s6 s7 s8 s9:Value}{W W':World}(h:R43 w0 SV L B n f0 f1 f2 f3 f4 f5 f6 f7 f8 f9 s0 s1 s2 s3 s4 s5 s6 s7 s8 s9 W) (hb:jb W W'):R43 w0 SV L B n f0 f1 f2 f3 f4 f5 f6 f7 f8 f9 s0 s1 s2 s3 s4 s5 s6 s7 s8 s9 W':=
 {h with
  bel:=jt h.bel hb
  h0:=fun k=>by
   obtain⟨a1,c1,a2,c2,a3,c3,a4,c4,e,hp⟩:=h.h0 k;exact⟨a1,c1,a2,c2,a3,c3,a4,c4,e,hp.below hb⟩
  h2:=fun k=>by
   obtain⟨b,e,hi⟩:=h.h2 k;exact⟨b,e,hi.below hb⟩
  h3:=fun k=>by
   obtain⟨b,e,hi⟩:=h.h3 k
   exact⟨b,e,hi.below hb⟩}
def zco (x:Tk):Tk:=⟨x.id,2⟩
def zdn (x:Sw):Sw:=⟨x.id,0,x.call⟩
def zdo (l:Lk) (r:Rt):Lk:=⟨l.id,l.ph,l.gone,if 0<l.left then r.T else l.left⟩
def za5 (p:Pl) (st:St):St:=⟨st.tks.map zco,st.sws.map zdn,List.zipWith zdo st.lks p.R⟩
theorem zgo {α:Type}(f:α→List Value) (sz:Nat): ∀(l:List α) (k r:Nat) (y:α) (u:Value) (hk:k<l.length),(∀x∈l,(f x).length=sz)→r<sz→f y=(f l[k]).set r u→(l.set k y).flatMap f=(l.flatMap f).set (k * sz+r) u
 | [],k,r,y,u,hk,_,_,_=>by simp at hk
 | x::l,0,r,y,u,_,hs,hr,hy=>by
  have hx:=hs x List.mem_cons_self;rw[List.set_cons_zero,List.flatMap_cons,List.flatMap_cons,hy,Nat.zero_mul,Nat.zero_add,List.set_append_left _ _ (by show r<(f x).length;omega)];rfl
 | x::l,k+1,r,y,u,hk,hs,hr,hy=>by
  have hx:=hs x List.mem_cons_self;have e:(k+1) * sz+r=(f x).length+(k * sz+r):=by rw[hx,Nat.add_mul];omega
  rw[List.set_cons_succ,List.flatMap_cons,List.flatMap_cons,zgo f sz l k r y u (by simpa using hk) (fun z hz=>hs z (List.mem_cons_of_mem _ hz)) hr (by simpa using hy),e,List.set_append_right _ _ (by omega)]
  congr 2
  omega
theorem zk2 {α:Type}{A A' l:List α}{b:α}{k:Nat}(hA:A.length=k) (hk:k<l.length) (hA':A'=A++[b]):A'++l.drop (k+1)=(A++l.drop k).set k b:=by
 subst hA';rw[List.set_append_right _ _ (by omega),hA,Nat.sub_self,List.drop_eq_getElem_cons hk,List.set_cons_zero,List.append_assoc];rfl
def zcp (l:List Tk) (k:Nat):List Tk:=(l.take k).map zco++l.drop k
def zcq (l:List Sw) (k:Nat):List Sw:=(l.take k).map zdn++l.drop k
def zbf (l:List Lk) (r:List Rt) (k:Nat):List Lk:=List.zipWith zdo (l.take k) (r.take k)++l.drop k
theorem zd0 (l:List Tk) (k:Nat):(zcp l k).length=l.length:=by unfold zcp;simp;omega
theorem zd1 (l:List Sw) (k:Nat):(zcq l k).length=l.length:=by unfold zcq;simp;omega
theorem zdc (l:List Lk) (r:List Rt) (k:Nat) (h:l.length=r.length):(zbf l r k).length=l.length:=by unfold zbf;simp;omega
theorem zng {l:List Tk}{k:Nat}(h:k<l.length):zcp l (k+1)=(zcp l k).set k (zco l[k]):=
 zk2 (by rw[List.length_map,List.length_take];omega) h (by rw[List.take_succ_eq_append_getElem h,List.map_append];rfl)
theorem znh {l:List Sw}{k:Nat}(h:k<l.length):zcq l (k+1)=(zcq l k).set k (zdn l[k]):=
 zk2 (by rw[List.length_map,List.length_take];omega) h (by rw[List.take_succ_eq_append_getElem h,List.map_append];rfl)
theorem zi2 {l:List Lk}{r:List Rt}{k:Nat}(h:k<l.length) (h2:k<r.length):zbf l r (k+1)=(zbf l r k).set k (zdo l[k] r[k]):=
 zk2 (by simp;omega) h (by rw[List.take_succ_eq_append_getElem h,List.take_succ_eq_append_getElem h2,List.zipWith_append (by simp;omega)];rfl)
theorem zi3 {l:List Tk}{k:Nat}(h:k<l.length):(zcp l k)[k]'(by rw[zd0];exact h)=l[k]:=by
 unfold zcp;rw[List.getElem_append_right (by rw[List.length_map,List.length_take];omega)];simp[Nat.min_eq_left (Nat.le_of_lt h)]
theorem zi4 {l:List Sw}{k:Nat}(h:k<l.length):(zcq l k)[k]'(by rw[zd1];exact h)=l[k]:=by
 unfold zcq;rw[List.getElem_append_right (by rw[List.length_map,List.length_take];omega)];simp[Nat.min_eq_left (Nat.le_of_lt h)]
theorem zgp {l:List Lk}{r:List Rt}{k:Nat}(h:k<l.length) (hl:l.length=r.length):(zbf l r k)[k]'(by rw[zdc _ _ _ hl];exact h)=l[k]:=by
 unfold zbf;rw[List.getElem_append_right (by simp;omega)];simp[Nat.min_eq_left (Nat.le_of_lt h),show min k r.length=k by omega]
theorem zni (l:List Tk):zcp l l.length=l.map zco:=by unfold zcp;simp
theorem znj (l:List Sw):zcq l l.length=l.map zdn:=by unfold zcq;simp
theorem znk {l:List Lk}{r:List Rt}(h:l.length=r.length):zbf l r l.length=List.zipWith zdo l r:=by
 unfold zbf;rw[List.take_length,h,List.take_length,←h,List.drop_length,List.append_nil]
theorem StOwn.setSw {W:World}{N g n cap:Nat}{t l:Value}{x:St}(h:StOwn W N t (jq g 0 n cap) l x){i:Nat}(hi:i<(x.sws.flatMap swC).length) (u:Value) (y:List Sw) (hy:y.length=x.sws.length) (hyc:y.flatMap swC=(x.sws.flatMap swC).set i u) (hn:n=x.sws.length):
  StOwn (W.setCell ⟨g,i,none⟩ u) N t (jq g 0 n cap) l ⟨x.tks,y,x.lks⟩:=by
 subst hn;refine⟨h.tks.kept (zg6 W g i u) ?_,?_,h.lks.kept (zg6 W g i u) ?_⟩
 ·rcases zdx h.tks h.sws (by decide)with h | h
  ·exact .inl h
  ·exact .inr h
 ·show World.ownsRow _ _ _ _ _ y.length (y.flatMap swC);rw[hy,hyc];exact zk1 h.sws hi u
 ·rcases zdx h.lks h.sws (by decide)with h | h
  ·exact .inl h
  ·exact .inr h
theorem StOwn.setLk {W:World}{N g n cap:Nat}{t s:Value}{x:St}(h:StOwn W N t s (jq g 0 n cap) x){i:Nat}(hi:i<(x.lks.flatMap lkC).length) (u:Value) (y:List Lk) (hy:y.length=x.lks.length) (hyc:y.flatMap lkC=(x.lks.flatMap lkC).set i u) (hn:n=x.lks.length):
  StOwn (W.setCell ⟨g,i,none⟩ u) N t s (jq g 0 n cap) ⟨x.tks,x.sws,y⟩:=by
 subst hn;refine⟨h.tks.kept (zg6 W g i u) ?_,h.sws.kept (zg6 W g i u) ?_,?_⟩
 ·rcases zdx h.tks h.lks (by decide)with h | h
  ·exact .inl h
  ·exact .inr h
 ·rcases zdx h.sws h.lks (by decide)with h | h
  ·exact .inl h
  ·exact .inr h
 ·show World.ownsRow _ _ _ _ _ y.length (y.flatMap lkC);rw[hy,hyc];exact zk1 h.lks hi u
structure ImgM (w:World) (N:Nat) (pc:Array Value) (t s l:Value) (x:St) (W:World):Prop where
 bel:jb w W
 pl:jk W w.heap.size pc 28
 blk:jk W (w.heap.size+1) #[t,s,l] 33
 res:jk W (w.heap.size+1+1) #[.slice none 0 0,.slice none 0 0,.slice none 0 0] 33
 own:StOwn W N t s l x
theorem ImgM.set {w:World}{N:Nat}{pc:Array Value}{t s l:Value}{x x':St}{W:World}(h:ImgM w N pc t s l x W) (hN:w.heap.size+1+1<N){g i:Nat}{u:Value}(hg:N≤g) (ho:StOwn (W.setCell ⟨g,i,none⟩ u) N t s l x'):ImgM w N pc t s l x' (W.setCell ⟨g,i,none⟩ u):=
 ⟨h.bel.setCell (by show w.heap.size≤g;omega) u,(Below.heap_setCell _ _ _ _ (by show w.heap.size≠g;omega)).trans h.pl,(Below.heap_setCell _ _ _ _ (by show w.heap.size+1≠g;omega)).trans h.blk,(Below.heap_setCell _ _ _ _ (by show w.heap.size+1+1≠g;omega)).trans h.res,ho⟩
theorem ImgM.below {w:World}{N:Nat}{pc:Array Value}{t s l:Value}{x:St}{W W':World}(h:ImgM w N pc t s l x W) (hb:jb W W'):ImgM w N pc t s l x W':=
 ⟨jt h.bel hb,(jm hb h.pl),(jm hb h.blk),(jm hb h.res),h.own.below hb⟩
theorem zg7 {w:World}{base:Nat}{e:TypeId}{sz:Nat}{v:Value}{n:Nat}{xs:List Value}(h:w.ownsRow base e sz v n xs) (hn:0<n): ∃g cap,v= .slice (some ⟨g,0,none⟩) n cap∧base≤g∧g<w.heap.size∧(∀o,w.frozen? ⟨g,o,none⟩=false)∧ ∀(i:Nat) (u:Value),xs[i]? =some u→jc w g i u:=by
 rcases h.2 with⟨_,h0⟩ | ⟨g,cap,cur,rfl,hbg,hgg,_⟩
 ·omega
 ·refine⟨g,cap,rfl,hbg,zad hgg,fun o=>by simp[World.frozen?,hgg],fun i u hu=> ?_⟩;have h2:=h.cells (g:=g) rfl i u hu;rw[zfc]at h2;exact h2
def zhz (w:World) (p:Pl) (st:St) (e:Ending) (w':World):Prop:=
 (zbu p st≠0∧e= .returned (.tuple #[.agg #[.slice none 0 0,.slice none 0 0,.slice none 0 0],.int .i64 (zbu p st)])∧jb w w')∨
 (zbu p st=0∧ ∃t s l,e= .returned (.tuple #[.agg #[t,s,l],.int .i64 0])∧StOwn w' w.heap.size t s l (za5 p st)∧jb w w')
theorem zvc (p:Pl) (s q gg rr:Value) (st:St) (t sw lk:Value) (w:World) (hp:PlM w s q gg rr p) (hf:p.Fit) (hs:StM w t sw lk st) (hsf:st.fit):
  Calls Tryz.prog 47 #[plV p s q gg rr,.agg #[t,sw,lk]] w (zhz w p st):=by
 have HCK:Hid (∀W,jb w W→Calls Tryz.prog 87 #[plV p s q gg rr,.agg #[t,sw,lk]] W (zdz W (zbu p st))):=fun W hb=>znf p st _ _ _ _ _ _ _ W (hp.below hb) hf (hs.below hb) hsf;have HTW:Hid (∀W,jb w W→Calls Tryz.prog 67 #[.agg #[t,sw,lk]] W fun e w'=> ∃a1 c1 a2 c2 a3 c3,e= .returned (.agg #[js a1 st.tks.length c1,js a2 st.sws.length c2,js a3 st.lks.length c3])∧StOwn w' W.heap.size (js a1 st.tks.length c1) (js a2 st.sws.length c2) (js a3 st.lks.length c3) st∧jb W w'):=fun W hb=>zm8 st _ _ _ W (hs.below hb) hsf;obtain⟨a1,c1,rfl,-⟩:=hp.S;obtain⟨a2,c2,rfl,-⟩:=hp.P;obtain⟨a3,c3,rfl,-⟩:=hp.G;obtain⟨a4,c4,rfl,hr⟩:=hp.R;have HR:Hid (∀W,jb w W→SlA W 7 RRt a4 c4 p.R):=fun W hb=>hr.below zcv hb;obtain⟨b1,d1,rfl,-⟩:=hs.tks;obtain⟨b2,d2,rfl,-⟩:=hs.sws;obtain⟨b3,d3,rfl,-⟩:=hs.lks;have HFT:=hI hsf;clear hp hf hs hsf hr;have HE0:Hid (zbu p st=0→st.lks.length=p.R.length):=fun h=>(zne h).2.1.2.2.1;unfold plV at *;go_enter Tryz.func47,Tryz.ntmps47;go_upto_region 1 with fail;generalize hW0:World.alloc _ _=W0;have K0:Hid (jb w W0):=by show Below _ _ _;rw[←hW0];exact(jal.alloc (by simp) _).alloc (by simp<;>omega) _
 have HP0:Hid (jk W0 w.heap.size #[p.ver,p.par,js a1 p.S.length c1,js a2 p.P.length c2,js a3 p.G.length c3,js a4 p.R.length c4] 28):=by show _=_;rw[←hW0];exact(heap_alloc_old _ _ (by simp<;>omega)).trans ((heap_alloc_old _ _ (by simp)).trans (heap_alloc_new _ _))
 have HS0:Hid (jk W0 (w.heap.size+1) #[js b1 st.tks.length d1,js b2 st.sws.length d2,js b3 st.lks.length d3] 33):=by show _=_;rw[←hW0];exact(heap_alloc_old _ _ (by simp)).trans (heap_alloc2_new _ _ _)
 have HR0:Hid (jk W0 (w.heap.size+1+1) #[.slice none 0 0,.slice none 0 0,.slice none 0 0] 33):=by
  show _=_;rw[←hW0];have:=heap_alloc2_new (w.alloc (.cells #[p.ver,p.par,js a1 p.S.length c1,js a2 p.P.length c2,js a3 p.G.length c3,js a4 p.R.length c4] 28)) (.cells #[js b1 st.tks.length d1,js b2 st.sws.length d2,js b3 st.lks.length d3] 33) (.cells #[.slice none 0 0,.slice none 0 0,.slice none 0 0] 33)
  simpa using this
 clear hW0;obtain⟨pp0,pp1,pp2,pp3,pp4,pp5⟩:=zan HP0;obtain⟨ss0,ss1,ss2⟩:=zap HS0;go_wp2_with fail;refine(HCK W0 K0).mono ?_;rintro e w1 ⟨rfl,hb1⟩;have K1:=jh K0 hb1;have HP1:=hI ((jm hb1 HP0));have HS1:=hI ((jm hb1 HS0));have HR1:=hI ((jm hb1 HR0));clear hb1 pp0 pp1 pp2 pp3 pp4 pp5 ss0 ss1 ss2 HP0 HS0 HR0 K0;by_cases hE:zbu p st=0
 ·have hlen:=HE0 hE;have HLEN:=hI hlen;have HPOST:Hid (∀e W',(∃t s l,e= .returned (.tuple #[.agg #[t,s,l],.int .i64 0])∧StOwn W' w.heap.size t s l (za5 p st)∧jb w W')→zhz w p st e W'):=fun e W' h=> .inr ⟨hE,h⟩;rw[hE];clear hE hlen;generalize zhz w p st=POST at *;obtain⟨ss0,ss1,ss2⟩:=zap HS1;go_wp2_with fail;refine(HTW w1 K1).mono ?_;rintro e w2 ⟨h1,m1,h2,m2,h3,m3,rfl,hown,hb2⟩;have K2:=jh K1 hb2;have HP2:=hI ((jm hb2 HP1));have hs2:=jm hb2 HS1;have HR2:=hI ((jm hb2 HR1));have HN:Hid (w.heap.size+1+1<w1.heap.size):=zad HR1;have HOW:=hI hown;clear hb2 hown ss0 ss1 ss2 HP1 HR1 HS1;obtain⟨ss0,ss1,ss2⟩:=zap hs2;have ff: ∀o,w2.frozen? ⟨w.heap.size+1,o,none⟩=false:=fun o=>by simp[World.frozen?,hs2]
  have lr:=zad hs2;have HS2:=hI hs2;clear hs2;go_upto_region 5 with fail;generalize hW3:World.setCell _ _ _=W3
  have HM:Hid (ImgM w w1.heap.size #[p.ver,p.par,js a1 p.S.length c1,js a2 p.P.length c2,js a3 p.G.length c3,js a4 p.R.length c4] (js h1 st.tks.length m1) (js h2 st.sws.length m2) (js h3 st.lks.length m3) st W3):=by
   show ImgM _ _ _ _ _ _ _ _;rw[←hW3];have hl:w.heap.size+1<w1.heap.size:=Nat.lt_of_succ_lt HN;refine⟨((K2.setCell (by simp) _).setCell (by simp) _).setCell (by simp) _,?_,?_,?_,((HOW.setCell hl _).setCell hl _).setCell hl _⟩
   ·simp[World.setCell,Array.getElem?_modify,HP2.out]
   ·simp[World.setCell,Array.getElem?_modify,HS2.out]
   ·simp[World.setCell,Array.getElem?_modify,HR2.out]
  clear hW3 ff lr ss0 ss1 ss2 HOW HP2 HS2 HR2 K2 K1;have HM0:Hid (ImgM w w1.heap.size #[p.ver,p.par,js a1 p.S.length c1,js a2 p.P.length c2,js a3 p.G.length c3,js a4 p.R.length c4] (js h1 st.tks.length m1) (js h2 st.sws.length m2) (js h3 st.lks.length m3) ⟨zcp st.tks 0,st.sws,st.lks⟩ W3):=HM.out;clear HM;have ss0:jc W3 (w.heap.size+1) 0 (js h1 st.tks.length m1):=jr HM0.blk;go_wp2_with fail;go_loopg [22] st.tks.length (fun g i wr=> ∃k:Nat,k≤st.tks.length∧g=st.tks.length-k∧i= .int .i64 k∧ImgM w w1.heap.size #[p.ver,p.par,js a1 p.S.length c1,js a2 p.P.length c2,js a3 p.G.length c3,js a4 p.R.length c4] (js h1 st.tks.length m1) (js h2 st.sws.length m2) (js h3 st.lks.length m3) ⟨zcp st.tks k,st.sws,st.lks⟩ wr)
  case atStart=>exact⟨0,by omega,by omega,rfl,HM0⟩
  case round=>
   obtain⟨k,hk,rfl,rfl,hm⟩:=hrel;obtain⟨wo,rfl⟩: ∃wo:World,wo=wr:=⟨_,rfl⟩;have HM:=hI hm;clear hm ss0;by_cases hlt:k<st.tks.length
   ·have c0:(0:Int)≤(k:Int):=(by omega);have e1:(k:Int)<(st.tks.length:Int):=(by omega);have hbnd:st.tks.length≤1000:=HFT.1;have hrow:=HM.own.tks;rw[zd0]at hrow;obtain⟨g,cap,e,hbg,lg,fz,hc⟩:=zg7 hrow (by omega);cases e;have hcell:=hc (k * 2+1) (.int .u8 st.tks[k].is) (by rw[zdm tkC 2 (zcp st.tks k) k 1 (by rw[zd0];exact hlt) (fun _ _=>rfl) (by decide),zi3 hlt];rfl);have f0:=fz (k * 2+1)
    have HNX:Hid (ImgM w w1.heap.size #[p.ver,p.par,js a1 p.S.length c1,js a2 p.P.length c2,js a3 p.G.length c3,js a4 p.R.length c4] (jq g 0 st.tks.length m1) (js h2 st.sws.length m2) (js h3 st.lks.length m3) ⟨zcp st.tks (k+1),st.sws,st.lks⟩ (wo.setCell ⟨g,k * 2+1,none⟩ (.int .u8 2))):=by
     refine HM.set HN hbg ?_;have h3:=zgo tkC 2 (zcp st.tks k) k 1 (zco st.tks[k]) (.int .u8 2) (by rw[zd0];exact hlt) (fun _ _=>rfl) (by decide) (by rw[zi3 hlt];rfl);exact HM.own.setTk (by show _<((zcp st.tks k).flatMap tkC).length;rw[zcc tkC 2 _ (fun _ _=>rfl),zd0];omega) _ (zcp st.tks (k+1)) (by rw[zd0];exact(zd0 _ _).symm) (by rw[zng hlt];exact h3) (by exact(zd0 _ _).symm)
    have ss0:jc wo (w.heap.size+1) 0 (jq g 0 st.tks.length m1):=jr HM.blk;clear hrow hc fz;go_wp2_with fail;go_roundg (st.tks.length-(k+1))
    case measure=>go_light;omega
    case rel=>go_light;exact⟨k+1,by omega,by omega,by go_num,HNX⟩
   ·obtain rfl:k=st.tks.length:=by omega
    have HM1:Hid (ImgM w w1.heap.size #[p.ver,p.par,js a1 p.S.length c1,js a2 p.P.length c2,js a3 p.G.length c3,js a4 p.R.length c4] (js h1 st.tks.length m1) (js h2 st.sws.length m2) (js h3 st.lks.length m3) ⟨st.tks.map zco,zcq st.sws 0,st.lks⟩ wo):=by
     have:=HM.out;rw[zni]at this;exact this
    clear HM;have ss1:jc wo (w.heap.size+1) 1 (js h2 st.sws.length m2):=jr HM1.blk;go_wp2_with fail;go_loopg [34] st.sws.length (fun g i wr=> ∃k:Nat,k≤st.sws.length∧g=st.sws.length-k∧i= .int .i64 k∧ImgM w w1.heap.size #[p.ver,p.par,js a1 p.S.length c1,js a2 p.P.length c2,js a3 p.G.length c3,js a4 p.R.length c4] (js h1 st.tks.length m1) (js h2 st.sws.length m2) (js h3 st.lks.length m3) ⟨st.tks.map zco,zcq st.sws k,st.lks⟩ wr)
    case atStart=>exact⟨0,by omega,by omega,rfl,HM1⟩
    case round=>
     obtain⟨k,hk,rfl,rfl,hm⟩:=hrel;obtain⟨wo,rfl⟩: ∃wo:World,wo=wr:=⟨_,rfl⟩;have HM:=hI hm;clear hm ss1;by_cases hlt:k<st.sws.length
     ·have c0:(0:Int)≤(k:Int):=(by omega);have e1:(k:Int)<(st.sws.length:Int):=(by omega);have hbnd:st.sws.length≤1000:=HFT.2.1;have hrow:=HM.own.sws;rw[zd1]at hrow;obtain⟨g,cap,e,hbg,lg,fz,hc⟩:=zg7 hrow (by omega);cases e;have hcell:=hc (k * 3+1) ↑st.sws[k].lie (by rw[zdm swC 3 (zcq st.sws k) k 1 (by rw[zd1];exact hlt) (fun _ _=>rfl) (by decide),zi4 hlt];rfl);have f0:=fz (k * 3+1)
      have HNX:Hid (ImgM w w1.heap.size #[p.ver,p.par,js a1 p.S.length c1,js a2 p.P.length c2,js a3 p.G.length c3,js a4 p.R.length c4] (js h1 st.tks.length m1) (jq g 0 st.sws.length m2) (js h3 st.lks.length m3) ⟨st.tks.map zco,zcq st.sws (k+1),st.lks⟩ (wo.setCell ⟨g,k * 3+1,none⟩ (.int .i64 0))):=by
       refine HM.set HN hbg ?_;have h3:=zgo swC 3 (zcq st.sws k) k 1 (zdn st.sws[k]) (.int .i64 0) (by rw[zd1];exact hlt) (fun _ _=>rfl) (by decide) (by rw[zi4 hlt];rfl);exact HM.own.setSw (by show _<((zcq st.sws k).flatMap swC).length;rw[zcc swC 3 _ (fun _ _=>rfl),zd1];omega) _ (zcq st.sws (k+1)) (by rw[zd1];exact(zd1 _ _).symm) (by rw[znh hlt];exact h3) (by exact(zd1 _ _).symm)
      have ss1:jc wo (w.heap.size+1) 1 (jq g 0 st.sws.length m2):=jr HM.blk;clear hrow hc fz;go_wp2_with fail;go_roundg (st.sws.length-(k+1))
      case measure=>go_light;omega
      case rel=>go_light;exact⟨k+1,by omega,by omega,by go_num,HNX⟩
     ·obtain rfl:k=st.sws.length:=by omega
      have HM2:Hid (ImgM w w1.heap.size #[p.ver,p.par,js a1 p.S.length c1,js a2 p.P.length c2,js a3 p.G.length c3,js a4 p.R.length c4] (js h1 st.tks.length m1) (js h2 st.sws.length m2) (js h3 st.lks.length m3) ⟨st.tks.map zco,st.sws.map zdn,zbf st.lks p.R 0⟩ wo):=by
       have:=HM.out;rw[znj]at this;exact this
      clear HM;have ss2:jc wo (w.heap.size+1) 2 (js h3 st.lks.length m3):=jr HM2.blk;go_wp2_with fail;go_loopg [46] st.lks.length (fun g i wr=> ∃k:Nat,k≤st.lks.length∧g=st.lks.length-k∧i= .int .i64 k∧ImgM w w1.heap.size #[p.ver,p.par,js a1 p.S.length c1,js a2 p.P.length c2,js a3 p.G.length c3,js a4 p.R.length c4] (js h1 st.tks.length m1) (js h2 st.sws.length m2) (js h3 st.lks.length m3) ⟨st.tks.map zco,st.sws.map zdn,zbf st.lks p.R k⟩ wr)
      case atStart=>exact⟨0,by omega,by omega,rfl,HM2⟩
      case round=>
       obtain⟨k,hk,rfl,rfl,hm⟩:=hrel;obtain⟨wo,rfl⟩: ∃wo:World,wo=wr:=⟨_,rfl⟩;have HM:=hI hm;clear hm ss2;by_cases hlt:k<st.lks.length
       ·have c0:(0:Int)≤(k:Int):=(by omega);have e1:(k:Int)<(st.lks.length:Int):=(by omega);have hbnd:st.lks.length≤1000:=HFT.2.2;have hkr:k<p.R.length:=(by have:=HLEN.out;omega);have e2:(k:Int)<(p.R.length:Int):=(by omega);have hrow:=HM.own.lks;rw[zdc _ _ _ HLEN.out]at hrow;obtain⟨g,cap,e,hbg,lg,fz,hc⟩:=zg7 hrow (by omega);cases e;have hcell:=hc (k * 4+3) ↑st.lks[k].left (by rw[zdm lkC 4 (zbf st.lks p.R k) k 3 (by rw[zdc _ _ _ HLEN.out];exact hlt) (fun _ _=>rfl) (by decide),zgp hlt HLEN.out];rfl);have f0:=fz (k * 4+3);have ss2:jc wo (w.heap.size+1) 2 (jq g 0 st.lks.length m3):=jr HM.blk;by_cases hleft:0<st.lks[k].left
        ·have pp5:jc wo w.heap.size 5 (js a4 p.R.length c4):=jr HM.pl;obtain⟨br,offr,vp,vo,vf,rfl,r0,r1,r2,r3,r4,r5,r6,-⟩:=(HR _ HM.bel).rt hkr;clear hrow hc fz;go_upto_region 19 with fail
         go_still_tail 11,(by kernel_rfl)
         change wpList _ _ _ _ _ wo.drew;generalize hWD:wo.drew=WD;have hbD:jb wo WD:=(by rw[←hWD];exact(Below.refl _ _).drew);have HMD:=hI (HM.below hbD);have hcell2:jc WD g (k * 4+3) st.lks[k].left:=zac hbD hcell;have f2:WD.frozen? ⟨g,k * 4+3,none⟩=false:=by rw[←hWD];exact f0
         have HNX:Hid (ImgM w w1.heap.size #[p.ver,p.par,js a1 p.S.length c1,js a2 p.P.length c2,js a3 p.G.length c3,jq br offr p.R.length c4] (js h1 st.tks.length m1) (js h2 st.sws.length m2) (jq g 0 st.lks.length m3) ⟨st.tks.map zco,st.sws.map zdn,zbf st.lks p.R (k+1)⟩ (WD.setCell ⟨g,k * 4+3,none⟩ ↑p.R[k].T)):=by
          refine HMD.set HN hbg ?_;have h3:=zgo lkC 4 (zbf st.lks p.R k) k 3 (zdo st.lks[k] p.R[k]) ↑p.R[k].T (by rw[zdc _ _ _ HLEN.out];exact hlt) (fun _ _=>rfl) (by decide) (by rw[zgp hlt HLEN.out];simp[lkC,zdo,hleft]);exact HMD.own.setLk (by show _<((zbf st.lks p.R k).flatMap lkC).length;rw[zcc lkC 4 _ (fun _ _=>rfl),zdc _ _ _ HLEN.out];omega) _ (zbf st.lks p.R (k+1)) (by rw[zdc _ _ _ HLEN.out];exact(zdc _ _ _ HLEN).symm) (by rw[zi2 hlt hkr];exact h3) (by exact(zdc _ _ _ HLEN).symm)
         clear hcell f0 lg hbD hWD;go_wp2_with fail;go_roundg (st.lks.length-(k+1))
         case measure=>go_light;omega
         case rel=>go_light;exact⟨k+1,by omega,by omega,by go_num,HNX⟩
        ·have HNX:Hid (ImgM w w1.heap.size #[p.ver,p.par,js a1 p.S.length c1,js a2 p.P.length c2,js a3 p.G.length c3,js a4 p.R.length c4] (js h1 st.tks.length m1) (js h2 st.sws.length m2) (jq g 0 st.lks.length m3) ⟨st.tks.map zco,st.sws.map zdn,zbf st.lks p.R (k+1)⟩ wo):=by
          have e3:zbf st.lks p.R (k+1)=zbf st.lks p.R k:=by
           rw[zi2 hlt hkr]
           have e4:zdo st.lks[k] p.R[k]=(zbf st.lks p.R k)[k]'(by rw[zdc _ _ _ HLEN.out];exact hlt):=by
            rw[zgp hlt HLEN.out];unfold zdo;rw[if_neg hleft]
           rw[e4,List.set_getElem_self]
          show ImgM _ _ _ _ _ _ _ _;rw[e3];exact HM
         clear hrow hc fz;go_wp2_with fail;go_roundg (st.lks.length-(k+1))
         case measure=>go_light;omega
         case rel=>go_light;exact⟨k+1,by omega,by omega,by go_num,HNX⟩
       ·obtain rfl:k=st.lks.length:=(by omega);have hM:=HM.out;have e3:zbf st.lks p.R st.lks.length=List.zipWith zdo st.lks p.R:=znk HLEN;rw[e3]at hM;have HM3:=hI hM;clear hM HM;obtain⟨ss0,ss1,ss2⟩:=zap HM3.blk;have hr:=HM3.res;obtain⟨rr0,rr1,rr2⟩:=zap hr;have ff: ∀o,wo.frozen? ⟨w.heap.size+1+1,o,none⟩=false:=fun o=>by simp[World.frozen?,hr]
        have HRR:=hI hr;clear hr;go_wp2_with fail;generalize hWE:World.setCell _ _ _=WE;have hE:jk WE (w.heap.size+1+1) #[js h1 st.tks.length m1,js h2 st.sws.length m2,js h3 st.lks.length m3] 33:=(by rw[←hWE];simp[World.setCell,Array.getElem?_modify,HRR.out]);obtain⟨ee0,ee1,ee2⟩:=zap hE;have hB:jb w WE:=(by rw[←hWE];exact((HM3.bel.setCell (by simp<;>omega) _).setCell (by simp<;>omega) _).setCell (by simp<;>omega) _);have hO:StOwn WE w1.heap.size (js h1 st.tks.length m1) (js h2 st.sws.length m2) (js h3 st.lks.length m3) ⟨st.tks.map zco,st.sws.map zdn,List.zipWith zdo st.lks p.R⟩:=(by rw[←hWE];exact((HM3.own.setCell HN.out _).setCell HN.out _).setCell HN.out _);exact bodyPost_ret (v:= .tuple #[.agg #[js h1 st.tks.length m1,js h2 st.sws.length m2,js h3 st.lks.length m3],.int .i64 0]) (by simp[results,Tryz.f47,go_sem,ee0,ee1,ee2]) rfl (HPOST _ _ ⟨_,_,_,rfl,hO.base (by have:=HN.out;omega),hB⟩)
 ·have HPOST:Hid (∀e W',e= .returned (.tuple #[.agg #[.slice none 0 0,.slice none 0 0,.slice none 0 0],.int .i64 (zbu p st)])→jb w W'→zhz w p st e W'):=fun e W' h hb=> .inl ⟨hE,h,hb⟩;generalize zhz w p st=POST at *;generalize zbu p st=E at *;have hr:=HR1.out;obtain⟨rr0,rr1,rr2⟩:=zap hr;have ff: ∀o,w1.frozen? ⟨w.heap.size+1+1,o,none⟩=false:=fun o=>by simp[World.frozen?,hr]
  clear hr;go_wp2_with fail;have s0:w1.setCell ⟨w.heap.size+1+1,0,none⟩ (.slice none 0 0)=w1:=zk0 HR1 rfl;have s1:w1.setCell ⟨w.heap.size+1+1,1,none⟩ (.slice none 0 0)=w1:=zk0 HR1 rfl;have s2:w1.setCell ⟨w.heap.size+1+1,2,none⟩ (.slice none 0 0)=w1:=zk0 HR1 rfl;rw[s0,s1,s2];exact bodyPost_ret (v:= .tuple #[.agg #[.slice none 0 0,.slice none 0 0,.slice none 0 0],E]) (by simp[results,Tryz.f47,go_sem,rr0,rr1,rr2]) rfl (HPOST _ _ rfl K1)
end Go.Proofs.YtbiehpjhhopjaaaGreat
