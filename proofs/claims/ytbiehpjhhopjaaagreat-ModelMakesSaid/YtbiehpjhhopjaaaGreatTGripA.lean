/-
 What a plan that may run,and a state that fits it,give to a grip.
-/
import Derived.Test.YtbiehpjhhopjaaaGreatTAtA
import Derived.Test.YtbiehpjhhopjaaaGreatTStateD
import Derived.Maps.Own
set_option linter.unusedVariables false
set_option linter.unusedSimpArgs false
set_option maxRecDepth 100000
set_option maxHeartbeats 16000000
namespace Go.Proofs.YtbiehpjhhopjaaaGreat
structure zuu (y:Wy):Prop where
 p6:y.A.length≤6
 p1:1≤y.A.length
 o2:y.O.length≤2
 S: ∀s∈y.A++y.O,0≤s∧s≤99
 asks:zdu y.asks
 len:y.asks.length≤1000
theorem zkx {p:Pl}(h:zaj p){k:Nat}(hlt:k<p.R.length):zuu (zao p p.R[k]):=by
 have hM:=h.1;have hMk:=hM.2.2 k hlt hlt;refine⟨hMk.1.2.2.2.2.1,hMk.1.2.2.2.1,hMk.1.2.2.2.2.2.1,fun s hs=> ?_,zme hM.1.2.2.2.2.2.1 hM.2.1.1.1.1 hMk.2.2,?_⟩
 ·obtain⟨i,hi,rfl⟩:=List.getElem_of_mem hs;have:=(hMk.2.1 i hi hi).1;exact⟨this.1,this.2.1⟩
 ·have h1:=zik (zcg p p.R[k]) p.R[k].fl p.R[k].fl.length;have h2:=(zgf p p.R[k] (zaa p.R[k]).length).1;have h3:(zaa p.R[k]).length=p.R[k].A.length+p.R[k].O.length:=List.length_append;have h4:=hMk.1.2.2.2.2.1;have h5:=hMk.1.2.2.2.2.2.1;have h6:=hMk.1.2.2.2.2.2.2.1;show(zbg (zcg p p.R[k]) p.R[k].fl p.R[k].fl.length).asks.length≤1000;unfold zcg at h1 ⊢;omega
theorem zuv {l:Lk}{r:Rt}(h:zch l r) (h1:1≤r.A.length):0≤l.gone∧l.gone<r.A.length:=by
 rcases h with⟨_,h2,_⟩ | ⟨_,h2,h3,_⟩ | ⟨_,h2,_,_⟩ | ⟨_,h2,_,_⟩<;>omega
theorem zna {α:Type}{f:α→Int}{l:List α}(h:zat f l l.length): ∀(d i:Nat) (hi:i+d+1<l.length),f (l[i]'(by omega))<f l[i+d+1]
 | 0,i,hi=>by
  have h1:f (l[i+1-1]'(by omega))<f (l[i+1]'(by omega)):=(h (i+1) hi hi).2 (by omega);exact h1
 | d+1,i,hi=>by
  have h0:=zna h d i (by omega);have h1:f (l[i+d+1+1-1]'(by omega))<f (l[i+d+1+1]'(by omega)):=(h (i+d+1+1) hi hi).2 (by omega);exact Int.lt_trans h0 h1
theorem zg4 {α:Type}{f:α→Int}{l:List α}(h:zat f l l.length){i j:Nat}(hj:j<l.length) (hij:i<j):f (l[i]'(by omega))<f l[j]:=by
 obtain⟨d,rfl⟩: ∃d,j=i+d+1:=⟨j-i-1,by omega⟩;exact zna h d i hj
theorem zuw {p:Pl}(h:zaj p):zat Pt.id p.P p.P.length:=h.1.2.1.1.1.1
structure znb (l:List Sw):Prop where
 at_: ∀i (h:i<l.length),1≤l[i].id∧l[i].id≤99∧0≤l[i].call∧l[i].call≤2
 own: ∀i (h:i<l.length) j (hj:j<i),l[j].id<l[i].id
theorem zux {p:Pl}(h:zaj p){l:List Sw}(hp:zbn zdh l p.P):znb l:=by
 have hr:=zuw h;have hl:=hp.1;refine⟨fun i hi=> ?_,fun i hi j hj=> ?_⟩
 ·have h1:=hp.2 i hi (by omega) hi;have h2:=(hr i (by omega) (by omega)).1;rw[h1.1];exact⟨h2.1,h2.2,h1.2.2.1,h1.2.2.2⟩
 ·have h1:=hp.2 i hi (by omega) hi;have h2:=hp.2 j (by omega) (by omega) (by omega);rw[h1.1,h2.1];exact zg4 hr (by omega) hj
def zfn (l:List Sw) (k:Nat) (c:Int):Int:=zbz (l.take k) c
theorem zuy (l:List Sw):zfn l 0=fun _=>0:=by funext c;simp[zfn,zbz,za1]
theorem zuz (l:List Sw):zfn l l.length=zbz l:=by funext c;simp[zfn]
theorem zu0 {l:List Sw}(h:znb l){k:Nat}(hk:k<l.length):zfn l (k+1)=fun c=>if c=l[k].id then l[k].call else zfn l k c:=by
 funext c
 unfold zfn zbz za1;rw[List.take_succ_eq_append_getElem hk,List.find?_append];by_cases hc:c=l[k].id
 ·rw[if_pos hc]
  have:(l.take k).find? (fun x=>decide (x.id=c))=none:=by
   rw[List.find?_eq_none];intro x hx;obtain⟨j,hj,rfl⟩:=List.getElem_of_mem hx;rw[List.length_take]at hj;rw[List.getElem_take];have:=h.own k hk j (by omega);simp;omega
  rw[this];simp[hc]
 ·rw[if_neg hc]
  have:[l[k]].find? (fun x=>decide (x.id=c))=none:=by
   rw[List.find?_eq_none];intro x hx;rw[List.mem_singleton]at hx;subst hx;simp;exact fun e=>hc e.symm
  rw[this];simp
theorem zu1 (p:Pl) (s:St) (k:Nat) (h1:k<p.R.length) (h2:k<s.lks.length):
  zbr p s (k+1)=zc5 (zbz s.sws) (zc8 (zao p p.R[k]) s.lks[k]) (zc4 s.lks[k].id (zc0 (zao p p.R[k]) s.lks[k]) (zbr p s k)):=by
 show zf3 (zbz s.sws) (zao p (p.R.getD k zRt)) (s.lks.getD k zLk) (zbr p s k)=_;rw[List.getD_eq_getElem?_getD,List.getD_eq_getElem?_getD,List.getElem?_eq_getElem h1,List.getElem?_eq_getElem h2];rfl
end Go.Proofs.YtbiehpjhhopjaaaGreat
namespace Go.Proofs.YtbiehpjhhopjaaaGreat
open Go.RowKit Go.Maps
theorem zu2 {W:World}{b n:Nat}{f:Int→Int}{D:DataW Unit}{c x:Int}(hD:IsMap D) (hat: ∀c:Int,(Lit.int .i64 c).wf=true→D.atKey (.int .i64 c) (.lit (.int .i64 0))= .lit (.int .i64 (f c)))
  (h:W.ownsMap Tryz.prog 3 (plainElem Tryz.prog 3) b (n+1) (D.put (.int .i64 c) (.lit (.int .i64 x)))):MapIs W b (n+1) (fun q=>if q=c then x else f q):=by
 refine⟨_,h,hD.put _ _,fun q hq=> ?_⟩;show _=DataW.lit (Lit.int IntKind.i64 (if q=c then x else f q));by_cases e:q=c
 ·subst e;rw[if_pos rfl];exact atKey_put_same (k:=Lit.int .i64 q) hD trivial _ _
 ·rw[if_neg e,atKey_put_other (fun h=>e (by injection h)) _ _];exact hat q hq
theorem zu3 (w:World):MapIs (w.alloc (.map #[] 0)) w.heap.size 0 (fun _=>0):=⟨_,World.ownsMap_made _ _ _ _,isMap_empty,fun _ _=>rfl⟩
theorem MapIs.block {W:World}{b n:Nat}{f:Int→Int}(h:MapIs W b n f): ∃es clock,W.heap[b]? =some (.map es clock):=by
 obtain⟨D,⟨es,clock,hb,_⟩,_⟩:=h;exact⟨es,clock,hb⟩
structure GI (N:Nat) (W0 w4:World) (gR gG b gM:Nat) (v:Value) (g:Gr) (n:Nat) (f:Int→Int) (W:World):Prop where
 tw:Tw gR gG W0 W
 gr:GrM W gR gG g v
 mp:MapIs W b n f
 mc:jc W gM 0 (.map (some b))
 sm:Same MG w4 W
 lb:N≤b
 lm:N≤gM
section
variable {N:Nat}{W0 w4 W W':World}{gR gG b gM n:Nat}{v:Value}{g:Gr}{f:Int→Int}
theorem GI.below (h:GI N W0 w4 gR gG b gM v g n f W) (hN:N=W0.heap.size) (hb:jb W W'):GI N W0 w4 gR gG b gM v g n f W':=
 ⟨h.tw.trans (Tw.of_below hb),h.gr.below hb,h.mp.same (hb.block _ h.mp.lt),(hb.cell (World.block_lt_of_cell? _ _ h.mc)).trans h.mc,h.sm.trans (Same.of_below hb),h.lb,h.lm⟩
theorem GI.grown (h:GI N W0 w4 gR gG b gM v g n f W) (hN:N=W0.heap.size) (hR:gR<N) (hG:gG<N){n':Nat}{f':Int→Int}(hm:MapIs W' b n' f') (hg:W.grownBy W' (some b)):GI N W0 w4 gR gG b gM v g n' f' W':=by
 have l:=h.lb;have lW:=h.tw.size;have bR:W'.heap[gR]? =W.heap[gR]? :=hg.block gR (by omega) (by intro e;injection e;omega);have bG:W'.heap[gG]? =W.heap[gG]? :=hg.block gG (by omega) (by intro e;injection e;omega);obtain⟨es,clock,hb⟩:=h.mp.block
 have hM:gM≠b:=by
  intro e;subst e;have:=h.mc;simp[World.cell?,hb]at this
 refine⟨⟨hg.os.trans h.tw.os,hg.tape.trans h.tw.tape,hg.output.trans h.tw.output,Nat.le_trans lW hg.size,fun k hk h1 h2=>(hg.block k (by omega) (by intro e;injection e;omega)).trans (h.tw.block k hk h1 h2)⟩,⟨bR.trans h.gr.ok,h.gr.row.same bG⟩,hm,(World.cell?_of_block (w:=W) (hg.block gM (World.block_lt_of_cell? _ _ h.mc) (by intro e;injection e;exact absurd ‹_› hM))).trans h.mc,?_,h.lb,h.lm⟩
 ·intro k c t fr hk hm';have h1:=h.sm k c t fr hk hm';refine(hg.block k (zad h1) ?_).trans h1;intro e
  injection e with e
  subst e;rw[hb]at h1;cases h1
theorem GI.tws (h:GI N W0 w4 gR gG b gM v g n f W) (ht:Tw gR gG W W'):Same MG w4 W':=by
 intro k c t fr hk hm';have h1:=h.sm k c t fr hk hm';refine(ht.block k (zad h1) ?_ ?_).trans h1
 ·intro e;subst e;rw[h.gr.ok]at h1
  injection h1 with h1
  injection h1 with _ h1
  subst h1;cases hm'
 ·intro e;subst e;obtain⟨cur,hc,_⟩:=h.gr.row.row;rw[hc]at h1
  injection h1 with h1
  injection h1 with _ h1
  subst h1;cases hm'
theorem GI.post {g':Gr}(h:GI N W0 w4 gR gG b gM v g n f W) (hN:N=W0.heap.size) (hR:gR<N) (hG:gG<N) (hg:GrM W' gR gG g' v) (ht:Tw gR gG W W'):GI N W0 w4 gR gG b gM v g' n f W':=by
 have l:=h.lb;have l2:=h.lm;exact⟨h.tw.trans ht,hg,h.mp.same (ht.block b h.mp.lt (by omega) (by omega)),(World.cell?_of_block (w:=W) (ht.block gM (World.block_lt_of_cell? _ _ h.mc) (by show gM≠gR;omega) (by show gM≠gG;omega))).trans h.mc,h.tws ht,h.lb,h.lm⟩
theorem GI.setR (h:GI N W0 w4 gR gG b gM v g n f W) (hN:N=W0.heap.size) (hR:gR<N) (hG:gG<N) (hne:gR≠gG) (x:Bool):GI N W0 w4 gR gG b gM v ⟨g.H,g.A,x⟩ n f (W.setCell ⟨gR,0,none⟩ (.bool x)):=
 h.post hN hR hG ⟨by simp[World.setCell,Array.getElem?_modify,h.gr.ok],h.gr.row.same (Below.heap_setCell W ⟨gR,0,none⟩ _ gG (Ne.symm hne))⟩ (Tw.setR _ _ _)
structure WyAt (w:World) (a:Option Addr) (k:Nat) (ap ao aa:Option Addr) (cp co ca:Nat) (y:Wy):Prop where
 cells: ∃b off,a=some ⟨b,off,none⟩∧jc w b (off+k * 4) (js ap y.A.length cp)∧jc w b (off+k * 4+1) (js ao y.O.length co)∧jc w b (off+k * 4+2) (js aa y.asks.length ca)∧jc w b (off+k * 4+3) y.near
 A:IL w ap y.A.length y.A
 O:IL w ao y.O.length y.O
 asks:SlA w 3 ze1 aa ca y.asks
 cap:y.A.length≤cp
theorem SlA.wyAt {w:World}{a:Option Addr}{cap:Nat}{l:List Wy}(h:SlA w 4 RWy a cap l){i:Nat}(hi:i<l.length): ∃ap ao aa cp co ca,WyAt w a i ap ao aa cp co ca l[i]:=by
 obtain⟨b,off,vp,vo,va,e,x0,x1,x2,x3,i1,i2,i3,i4⟩:=h.wyc hi;obtain⟨ap,cp,rfl,j1⟩:=i1.at_;obtain⟨ao,co,rfl,j2⟩:=i2.at_;obtain⟨aa,ca,rfl,j3⟩:=i3;exact⟨ap,ao,aa,cp,co,ca,⟨b,off,e,x0,x1,x2,x3⟩,j1,j2,j3,i4 _ _ _ rfl⟩
theorem WyAt.ext {w w':World}{a:Option Addr}{k:Nat}{ap ao aa:Option Addr}{cp co ca:Nat}{y:Wy}(h:WyAt w a k ap ao aa cp co ca y) (he:Ext w w'):WyAt w' a k ap ao aa cp co ca y:=by
 obtain⟨b,off,e,x0,x1,x2,x3⟩:=h.cells;exact⟨⟨b,off,e,he _ _ x0,he _ _ x1,he _ _ x2,he _ _ x3⟩,h.A.ext he,h.O.ext he,h.asks.ext zmg he,h.cap⟩
theorem WyAt.same {w4 W':World}{a:Option Addr}{k:Nat}{ap ao aa:Option Addr}{cp co ca:Nat}{y:Wy}(h:WyAt (zb0 MG w4) a k ap ao aa cp co ca y) (hs:Same MG w4 W'):WyAt W' a k ap ao aa cp co ca y:=
 (h.ext hs.ext).ext (zio MG W')
end
theorem zu4 {W0 w4:World}{gR gG:Nat}{u v:Value}{g:Gr}(ht:Tw gR gG W0 w4) (hg:GrM w4 gR gG g u) (hne:gR≠gG):
  GI W0.heap.size W0 w4 gR gG w4.heap.size (w4.heap.size+1) v g 0 (fun _=>0) (((w4.setCell ⟨gG,200,none⟩ v).alloc (.map #[] 0)).alloc (.cells #[.map (some w4.heap.size)] 357)):=by
 have e0:(w4.setCell ⟨gG,200,none⟩ v).heap.size=w4.heap.size:=by simp[World.setCell]
 have hm:=zu3 (w4.setCell ⟨gG,200,none⟩ v);rw[e0]at hm;have hb:Below (w4.setCell ⟨gG,200,none⟩ v).heap.size (w4.setCell ⟨gG,200,none⟩ v) (((w4.setCell ⟨gG,200,none⟩ v).alloc (.map #[] 0)).alloc (.cells #[.map (some w4.heap.size)] 357)):=jal.alloc (by simp) _;have hb1:Below ((w4.setCell ⟨gG,200,none⟩ v).alloc (.map #[] 0)).heap.size ((w4.setCell ⟨gG,200,none⟩ v).alloc (.map #[] 0)) (((w4.setCell ⟨gG,200,none⟩ v).alloc (.map #[] 0)).alloc (.cells #[.map (some w4.heap.size)] 357)):=jal;have hg1:GrM (w4.setCell ⟨gG,200,none⟩ v) gR gG g v:=⟨(Below.heap_setCell _ _ _ gR hne).trans hg.ok,hg.row.setV v⟩;refine⟨(ht.trans (Tw.setG _ _ _)).trans (Tw.of_below hb),hg1.below hb,hm.same (hb1.block _ hm.lt),?_,?_,ht.size,Nat.le_succ_of_le ht.size⟩
 ·have:=heap_alloc_new ((w4.setCell ⟨gG,200,none⟩ v).alloc (.map #[] 0)) (.cells #[.map (some w4.heap.size)] 357);have e1:((w4.setCell ⟨gG,200,none⟩ v).alloc (.map #[] 0)).heap.size=w4.heap.size+1:=by simp[World.setCell]
  rw[e1]at this;exact(cell_of_row _ _ 0 _ _ _ this).trans rfl
 ·refine Same.trans ?_ (Same.of_below hb);intro k c t fr hk hm';refine(Below.heap_setCell _ _ _ k ?_).trans hk;intro e;subst e;obtain⟨cur,hc,_⟩:=hg.row.row;rw[hc]at hk
  injection hk with hk
  injection hk with _ hk
  subst hk;cases hm'
end Go.Proofs.YtbiehpjhhopjaaaGreat
