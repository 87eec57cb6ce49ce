/-
 Drawn regions whose effects are in one forced order (SQ);a world with some blocks emptied (zar);rows written at one cell.
-/
import Derived.Test.YtbiehpjhhopjaaaGreatTRefA
import Derived.Test.YtbiehpjhhopjaaaGreatTTwinR
import Derived.Deep.MidRow
set_option linter.unusedVariables false
set_option linter.unusedSimpArgs false
set_option maxRecDepth 100000
set_option maxHeartbeats 16000000
namespace Go.Proofs.YtbiehpjhhopjaaaGreat
open Go.RowKit
structure SQ (effs:List Nat) (mu:List (List Nat)) (K:Nat→(Nat→Value)→World→Prop) (v:Nat→Value) (f:Nat→Bool) (s:Nat→Value) (W:World):Prop where
 ex: ∃c r,c≤effs.length∧(∀p (h:p<effs.length),f effs[p]=decide (p<c))∧(∀p (h:p<effs.length),p<c→s effs[p]=r p)∧K c r W∧ ∀p (h:p<mu.length),p<c→ ∀i∈mu[p],f i=true
 val: ∀i,i∉effs→f i=true→s i=v i
section
variable {effs:List Nat}{mu:List (List Nat)}{K:Nat→(Nat→Value)→World→Prop}{v:Nat→Value}{f:Nat→Bool}{s:Nat→Value}{W:World}
theorem SQ.start (r:Nat→Value) (h:K 0 r W):SQ effs mu K v (fun _=>false) s W:=⟨⟨0,r,Nat.zero_le _,fun _ _=>by simp,fun _ _ h=>by omega,h,fun _ _ h=>by omega⟩,fun _ _ (h:false=true)=>Bool.noConfusion h⟩
theorem SQ.pure (h:SQ effs mu K v f s W) (i:Nat) (hi:i∉effs):SQ effs mu K v (fun j=>decide (j=i) || f j) (fun j=>if j=i then v i else s j) W:=by
 obtain⟨⟨c,r,h1,h2,h3,h4,h5⟩,hv⟩:=h;have ne: ∀p (h:p<effs.length),effs[p]≠i:=fun p hp e=>hi (e ▸ List.getElem_mem hp);refine⟨⟨c,r,h1,fun p hp=> ?_,fun p hp hc=> ?_,h4,fun p hp hc j hj=> ?_⟩,fun j hj hf=> ?_⟩
 ·simp only[decide_eq_false (ne p hp),Bool.false_or];exact h2 p hp
 ·simp only[if_neg (ne p hp)];exact h3 p hp hc
 ·rw[h5 p hp hc j hj,Bool.or_true]
 ·by_cases e:j=i
  ·subst e;exact if_pos rfl
  ·simp only[if_neg e];rw[decide_eq_false e,Bool.false_or]at hf;exact hv j hj hf
theorem SQ.done (h:SQ effs mu K v f s W) (hall: ∀p (h:p<effs.length),f effs[p]=true): ∃r,(∀q (h:q<effs.length),s effs[q]=r q)∧K effs.length r W:=by
 obtain⟨⟨c,r,h1,h2,h3,h4,h5⟩,hv⟩:=h
 have:effs.length≤c:=by
  rcases Nat.lt_or_ge c effs.length with q | q
  ·have:=h2 c q;rw[hall c q]at this;simp at this
  ·exact q
 obtain rfl:c=effs.length:=by omega
 exact⟨r,fun q hq=>h3 q hq hq,h4⟩
end
theorem zwt:KeepsC RPt:=fun _ _ _ _ _ h=>h
theorem zwu:KeepsC RSg:=fun _ _ _ _ _ h=>h
theorem zwv:KeepsC RFl:=fun _ _ _ _ _ h=>h
theorem zdj:KeepsC zas:=fun _ _ _ _ he ⟨e,h1,h2⟩=>⟨e,h1,h2.ext zim he⟩
theorem RtM.ext {w w':World}{p o f:Value}{x:Rt}(h:RtM w p o f x) (he:Ext w w'):RtM w' p o f x:=⟨h.A.ext he,h.O.ext he,h.fl.ext zwv he⟩
theorem zet:KeepsC RRt:=fun _ _ _ _ he ⟨p,o,f,h1,h2⟩=>⟨p,o,f,h1,h2.ext he⟩
def zar (S:Nat→Bool) (w:World):World:={w with heap:=w.heap.mapIdx fun k o=>if S k then .cells #[] 0 (0,0)else o}
theorem zhc {S:Nat→Bool}{w:World}{k:Nat}(h:S k=false):(zar S w).heap[k]? =w.heap[k]? :=by simp[zar,h]
theorem zjb {S:Nat→Bool}{w:World}{a:Addr}{v:Value}(h:(zar S w).cell? a=some v):S a.block=false∧w.cell? a=some v:=by
 cases hs:S a.block with
 | false=>exact⟨rfl,by rw[←World.cell?_of_block (w:=w) (zhc hs)];exact h⟩
 | true=>
  unfold World.cell? at h;simp only[zar,Array.getElem?_mapIdx,hs]at h;cases ho:w.heap[a.block]? with
  | none=>rw[ho]at h;simp at h
  | some o=>rw[ho]at h;simp at h
theorem ze5 (S:Nat→Bool) (w:World):Ext (zar S w) w:=fun a v h=>(zjb h).2
theorem zle {S:Nat→Bool}{w w':World}(h: ∀k,k<w.heap.size→S k=false→w'.heap[k]? =w.heap[k]?):Ext (zar S w) (zar S w'):=fun a v e=>by
 obtain⟨h1,h2⟩:=zjb e;rw[World.cell?_of_block (w:=w') (zhc h1),World.cell?_of_block (w:=w) (h _ (block_lt_of_cell h2) h1)];exact h2
theorem zay {S:Nat→Bool}{w w':World}(hb:jb w w'):Ext (zar S w) (zar S w'):=zle fun k hk _=>hb.block k hk
theorem zo1 {S:Nat→Bool}{w w':World}(hb:jb w w') (hS: ∀k,k<w.heap.size→S k=false):Ext w (zar S w'):=fun a v e=>by
 have hk:=block_lt_of_cell e;rw[World.cell?_of_block (w:=w') (zhc (hS _ hk)),World.cell?_of_block (w:=w) (hb.block _ hk)];exact e
theorem zo2 {W:World}{base g n cap sz:Nat}{e:TypeId}{xs:List Value}(h:W.ownsRow base e sz (jq g 0 n cap) n xs){i:Nat}(hi:i<xs.length) (u:Value):
  (W.setCell ⟨g,i,none⟩ u).ownsRow base e sz (jq g 0 n cap) n (xs.set i u):=by
 refine⟨by rw[List.length_set];exact h.1,?_⟩;rcases h.2 with⟨h1,_⟩ | ⟨g',cap',cur,he,hbg,hgb,r1,r2,r3,r4⟩
 ·cases h1
 ·cases he;refine .inr ⟨g,cap,cur.setIfInBounds i u,rfl,hbg,by simp[World.setCell,Array.getElem?_modify,hgb],r1,r2,by simp[r3],?_⟩;rw[←r4,Array.toList_setIfInBounds,List.take_set]
theorem zo3 {W:World}{g o:Nat}{cs:Array Value}{T:TypeId}{u:Value}(h:jk W g cs T):(W.setCell ⟨g,o,none⟩ u).heap[g]? =some (.cells (cs.setIfInBounds o u) T (0,0)):=by simp[World.setCell,Array.getElem?_modify,h]
theorem zo4 (sz:Nat): ∀(xss:List (List Value)) (i j:Nat) (hi:i<xss.length) (u:Value),(∀x∈xss,x.length=sz)→j<sz→(xss.flatMap id).set (i * sz+j) u=(xss.set i (xss[i].set j u)).flatMap id
 | [],i,j,hi,_,_,_=>by simp at hi
 | x::l,0,j,_,u,hs,hj=>by
  simp only[List.flatMap_cons,id,Nat.zero_mul,Nat.zero_add,List.set_cons_zero,List.getElem_cons_zero];rw[List.set_append_left _ _ (by rw[hs x List.mem_cons_self];exact hj)]
 | x::l,i+1,j,hi,u,hs,hj=>by
  have hx:=hs x List.mem_cons_self;simp only[List.flatMap_cons,id,List.set_cons_succ,List.getElem_cons_succ];rw[List.set_append_right _ _ (by rw[hx,Nat.add_mul];omega),hx,show(i+1) * sz+j-sz=i * sz+j by rw[Nat.add_mul];omega,←zo4 sz l i j (by simpa using hi) u (fun y hy=>hs y (List.mem_cons_of_mem _ hy)) hj]
theorem zww {α:Type}{w:World}{base:Nat}{e:TypeId}{sz:Nat}{v:Value}{l:List α}{xss:List (List Value)}{R:World→List Value→α→Prop}(h:w.ownsRow base e sz v xss.length (xss.flatMap id)) (hl:xss.length=l.length) (hs: ∀x∈xss,x.length=sz)
  (hR: ∀i (h:i<xss.length) (h':i<l.length),R w xss[i] l[i]):Sl w sz R v l:=by
 rcases h.2 with⟨rfl,h0⟩ | ⟨g,cap,cur,rfl,hbg,hgg,hc,hm,hz,ht⟩
 ·have hn:l=[]:=List.eq_nil_of_length_eq_zero (by omega);subst hn;exact Sl.nil _ _ _
 ·refine⟨some ⟨g,0,none⟩,cap,by rw[hl],by rw[←hl];exact hc,(fun h=>nomatch h),fun i hi=>⟨g,0,xss[i]'(by omega),rfl,hs _ (List.getElem_mem _),fun j hj=> ?_,hR i (by omega) hi⟩⟩;have hi':i<xss.length:=by omega
  have hj':j<sz:=by rw[←hs _ (List.getElem_mem hi')];exact hj
  have h1:(xss.flatMap id)[i * sz+j]? =some (xss[i]'hi')[j]:=by
   rw[zdm id sz xss i j hi' hs hj',id,List.getElem?_eq_getElem hj]
  have h2:=h.cells (g:=g) rfl (i * sz+j) _ h1;rw[zfc]at h2;rw[Nat.zero_add];exact h2
structure Onl (g:Nat) (W W':World):Prop where
 os:W'.os=W.os
 tape:W'.tape=W.tape
 output:W'.output=W.output
 size:W'.heap.size=W.heap.size
 block: ∀k,k≠g→W'.heap[k]? =W.heap[k]?
theorem Onl.set (W:World) (a:Addr) (u:Value):Onl a.block W (W.setCell a u):=⟨rfl,rfl,rfl,by simp[World.setCell],fun k hk=>Below.heap_setCell W a u k hk⟩
theorem Onl.trans {g:Nat}{W W' W'':World}(h:Onl g W W') (k:Onl g W' W''):Onl g W W'':=⟨k.os.trans h.os,k.tape.trans h.tape,k.output.trans h.output,k.size.trans h.size,fun i hi=>(k.block i hi).trans (h.block i hi)⟩
theorem Onl.cells (g:Nat): ∀(vs:List Value) (o:Nat) (W:World),Onl g W (W.setCells g o vs)
 | [],_,W=>⟨rfl,rfl,rfl,rfl,fun _ _=>rfl⟩
 | v::r,o,W=>(Onl.set W ⟨g,o,none⟩ v).trans (Onl.cells g r (o+1) _)
theorem Onl.below {g B:Nat}{w W W':World}(h:Onl g W W') (hb:Below B w W) (hg:B≤g):Below B w W':=
 hb.trans ⟨h.os,h.tape,h.output,by rw[h.size];exact Nat.le_refl _,fun k hk=>h.block k (by omega)⟩
theorem Onl.off {g:Nat}{W W':World}(h:Onl g W W'){S:Nat→Bool}(hS:S g=true):Ext (zar S W) (zar S W'):=zle fun k _ hs=>h.block k (fun e=>by rw[e,hS]at hs;cases hs)
theorem Onl.own {g:Nat}{W W':World}(h:Onl g W W'){base:Nat}{e:TypeId}{sz:Nat}{v:Value}{n:Nat}{xs:List Value}(hw:W.ownsRow base e sz v n xs) (hne:v.ownBlock≠some g):W'.ownsRow base e sz v n xs:=by
 refine⟨hw.1,?_⟩;rcases hw.2 with hn | ⟨k,cap,cur,rfl,hbg,hgg,rest⟩
 ·exact .inl hn
 ·exact .inr ⟨k,cap,cur,rfl,hbg,(h.block k (fun e=>hne (by rw[e];rfl))).trans hgg,rest⟩
theorem zhd {W:World}{base g:Nat}{e:TypeId}{sz:Nat}{v:Value}{n:Nat}{xs:List Value}(h:W.ownsRow base e sz v n xs){c:Array Value}{T:TypeId}{fr:Nat × Nat}(ha:W.heap[g]? =some (.cells c T fr)) (hne:T≠e):v.ownBlock≠some g:=fun e'=>by
 obtain⟨c',q,-⟩:=zb1 h e';rw[ha]at q
 injection q with q
 injection q with _ q
 exact hne q
theorem zjc {S:Nat→Bool}{W:World}{base:Nat}{e:TypeId}{sz:Nat}{v:Value}{n:Nat}{xs:List Value}(h:W.ownsRow base e sz v n xs) (hS: ∀k,v.ownBlock=some k→S k=false):(zar S W).ownsRow base e sz v n xs:=by
 refine⟨h.1,?_⟩;rcases h.2 with hn | ⟨k,cap,cur,rfl,hbg,hgg,rest⟩
 ·exact .inl hn
 ·exact .inr ⟨k,cap,cur,rfl,hbg,(zhc (hS k rfl)).trans hgg,rest⟩
def zfr:List Value→Nat→List Value→List Value
 | xs,_,[]=>xs
 | xs,o,v::r=>zfr (xs.set o v) (o+1) r
theorem zo5 {base g n cap sz:Nat}{e:TypeId}: ∀(vs:List Value) (o:Nat) (xs:List Value) (W:World),W.ownsRow base e sz (jq g 0 n cap) n xs→o+vs.length≤xs.length→(W.setCells g o vs).ownsRow base e sz (jq g 0 n cap) n (zfr xs o vs)
 | [],_,_,_,h,_=>h
 | v::r,o,xs,W,h,hl=>by
  simp only[List.length_cons]at hl;exact zo5 r (o+1) _ _ (zo2 h (by omega) v) (by rw[List.length_set];omega)
theorem zo6: ∀(vs xs ys:List Value) (o:Nat),zfr (xs++ys) (xs.length+o) vs=xs++zfr ys o vs
 | [],_,_,_=>rfl
 | v::r,xs,ys,o=>by
  rw[zfr,zfr,List.set_append_right _ _ (by omega),show xs.length+o-xs.length=o by omega,show xs.length+o+1=xs.length+(o+1)by omega,zo6 r]
theorem zo7: ∀(vs us xs ys:List Value),vs.length=xs.length→zfr (us++xs++ys) us.length vs=us++vs++ys
 | [],us,[],ys,_=>rfl
 | [],_,x::xs,_,h=>by simp at h
 | v::r,_,[],_,h=>by simp at h
 | v::r,us,x::xs,ys,h=>by
  have e:(us++x::xs++ys).set us.length v=(us++[v])++xs++ys:=by simp
  have:=zo7 r (us++[v]) xs ys (by simpa using h);rw[zfr,e];simp only[List.length_append,List.length_cons,List.length_nil,Nat.zero_add]at this;rw[this];simp
theorem zo8 (sz:Nat): ∀(xss:List (List Value)) (i:Nat) (vs:List Value),i<xss.length→(∀x∈xss,x.length=sz)→vs.length=sz→zfr (xss.flatMap id) (i * sz) vs=(xss.set i vs).flatMap id
 | [],i,_,hi,_,_=>by simp at hi
 | x::l,0,vs,_,hs,hv=>by
  have:=zo7 vs [] x (l.flatMap id) (by rw[hv,hs x List.mem_cons_self])
  simpa using this
 | x::l,i+1,vs,hi,hs,hv=>by
  have hx:=hs x List.mem_cons_self;have:=zo6 vs x (l.flatMap id) (i * sz);simp only[List.flatMap_cons,id,List.set_cons_succ];rw[show(i+1) * sz=x.length+i * sz by rw[hx,Nat.add_mul];omega,this,zo8 sz l i vs (by simpa using hi) (fun y hy=>hs y (List.mem_cons_of_mem _ hy)) hv]
theorem zjd {P:Program}{ops:Array Oper}{i:Nat}{o:Oper}{a:Act}{w:World}{Q:Exit→Act→World→Prop}{K:Act→World→Prop}(h:ops[i]? =some o) (hgd:o.guard=none) (ty:TypeId) (x y:Operand) (ho:o.op= .store ty x y)
  (b off:Nat) (cells:Array Value) (hx:a.eval x= .pointer (some ⟨b,off,none⟩)) (hy:a.eval y= .agg cells) (ht:w.there b off cells.size) (hi:(P.info? ty).map (·.size)=some cells.size) (h1:cells.all (·.oneCell')=true)
  (hK:K (a.put o.dst undef) (w.setCells b off cells.toList)):wpOp P ops Q i K a w:=by
 unfold wpOp;rw[h];have hw:Region.wanted o (yielded ops a.tmps)=true:=by simp[Region.wanted,hgd]
 simp only[hw,if_true];exact .inl (wp_store_mid ty x y ho b off cells hx hy ht hi h1 hK)
def zje (cs:Array Value):Nat→List Value→Array Value
 | _,[]=>cs
 | o,v::r=>zje (cs.setIfInBounds o v) (o+1) r
theorem zo9 {W:World}{g:Nat}{T:TypeId}: ∀(vs:List Value) (o:Nat) (cs:Array Value) (W:World),jk W g cs T→(W.setCells g o vs).heap[g]? =some (.cells (zje cs o vs) T (0,0))
 | [],_,_,_,h=>h
 | v::r,o,cs,W,h=>zo9 (W:=W) r (o+1) _ _ (zo3 h)
structure Fr (w:World) (L:List (Array Value × TypeId)) (W:World):Prop where
 bel:jb w W
 sz:w.heap.size+L.length≤W.heap.size
 row: ∀i c,L[i]? =some c→jk W (w.heap.size+i) c.1 c.2
section
variable {w W W':World}{L:List (Array Value × TypeId)}
theorem Fr.start (w:World):Fr w [] w:=⟨Below.refl _ _,Nat.le_refl _,fun i c h=>by simp at h⟩
theorem Fr.alloc (h:Fr w L W) (hs:W.heap.size=w.heap.size+L.length) (c:Array Value) (T:TypeId):Fr w (L++[(c,T)]) (W.alloc (.cells c T)):=
 ⟨h.bel.alloc h.bel.size _,by simp;omega,fun i x hx=>by
  by_cases hi:i<L.length
  ·rw[List.getElem?_append_left hi]at hx;have:=h.row i x hx;exact(heap_alloc_old _ _ (by omega)).trans this
  ·rw[List.getElem?_append_right (by omega)]at hx
   have e:i=L.length:=by
    rcases Nat.eq_or_lt_of_le (Nat.le_of_not_lt hi)with e | e
    ·exact e.symm
    ·rw[List.getElem?_eq_none (by simp;omega)]at hx;cases hx
   subst e;simp at hx;subst hx;rw[←hs]
   exact heap_alloc_new _ _⟩
theorem Fr.below (h:Fr w L W) (hb:jb W W'):Fr w L W':=
 ⟨jt h.bel hb,Nat.le_trans h.sz hb.size,fun i c hc=>by
  have:=h.row i c hc
  exact(jm hb this)⟩
theorem Fr.only (h:Fr w L W){i:Nat}{c:Array Value × TypeId}(hi:L[i]? =some c){c':Array Value}(ho:Onl (w.heap.size+i) W W') (hr:jk W' (w.heap.size+i) c' c.2):Fr w (L.set i (c',c.2)) W':=by
 have hlt:i<L.length:=(List.getElem?_eq_some_iff.1 hi).1;refine⟨ho.below h.bel (by omega),by rw[List.length_set,ho.size];exact h.sz,fun j x hx=> ?_⟩;by_cases e:j=i
 ·subst e;rw[List.getElem?_set_self hlt]at hx;cases hx;exact hr
 ·rw[List.getElem?_set_ne (Ne.symm e)]at hx;rw[ho.block _ (by omega)];exact h.row j x hx
theorem Fr.set (h:Fr w L W) (i:Nat){c:Array Value × TypeId}(hi:L[i]? =some c) (o:Nat) (u:Value):Fr w (L.set i (c.1.setIfInBounds o u,c.2)) (W.setCell ⟨w.heap.size+i,o,none⟩ u):=
 h.only hi (Onl.set W ⟨w.heap.size+i,o,none⟩ u) (zo3 (h.row i c hi))
theorem Fr.sets (h:Fr w L W) (i:Nat){c:Array Value × TypeId}(hi:L[i]? =some c) (o:Nat) (vs:List Value):Fr w (L.set i (zje c.1 o vs,c.2)) (W.setCells (w.heap.size+i) o vs):=
 h.only hi (Onl.cells _ vs o W) (zo9 (W:=W) vs o _ _ (h.row i c hi))
theorem Fr.setRow (h:Fr w L W) (i:Nat){c:Array Value × TypeId}(hi:L[i]? =some c) (c':Array Value):Fr w (L.set i (c',c.2)) (W.setRow (w.heap.size+i) c'):=
 h.only hi ⟨rfl,rfl,rfl,by simp[World.setRow],fun k hk=>setRow_other _ _ _ _ hk⟩ (setRow_heap _ _ _ _ _ _ (h.row i c hi))
theorem Fr.lt (h:Fr w L W){i:Nat}(hi:i<L.length):w.heap.size+i<W.heap.size:=by have:=h.sz;omega
theorem Fr.there (h:Fr w L W){i:Nat}{c:Array Value × TypeId}(hi:L[i]? =some c){o k:Nat}(hk:o+k≤c.1.size):W.there (w.heap.size+i) o k:=fun j hj=>by
 have hr:=h.row i c hi;refine⟨?_,by simp[World.frozen?,hr]⟩;rw[cell_of_row W _ (o+j) _ _ _ hr,Array.getElem?_eq_getElem (by omega)];rfl
end
end Go.Proofs.YtbiehpjhhopjaaaGreat
