/- Walks, laws. -/
import Derived.Test.YtbiehpjhhopjaaaGreatT13
import Derived.Lib.SmallJoins
set_option linter.all false
set_option maxRecDepth 100000
set_option maxHeartbeats 16000000
namespace Go.Proofs.YtbiehpjhhopjaaaGreat
open _root_ renaming Array->aL,Bool->aU,List->aq,Int->ar,Nat->av,Bool.true->bl,Option.none->bn,Option.some->bt
open Go renaming World->aj,Addr->bR,TypeId->bT,Value->bw,Value.slice->cJ,Ending.returned->cL,Value.int->cW
open Go.RowKit Go.Sort Tryz
variable {cs:aq bw}{W W' w:aj}{e t:bT}{g m sz:av}{x:Hs}{key:aq ar}{A:aL bw}{z:ar}
open Go.ChangeShapes Go.WideShapes Go.ChangeAt Go.Deep
def ya8:ownKnob prog.godebug=bn:=by kernel_rfl
def NG:laidOutB prog=bl:=by kernel_rfl
section
variable {H:Type}{enc:bT × bw->H}{W:aj}{base:av}{sp:av->aU}{hd:aU}
def mf:DataW H->DataW H->Prop
 | .slice es _,d=>d∈es
 | _,_=>False
def NE {α:Type}{R:aj->aq bw->α->Prop}(I:prog.underlying t=bt (.slice e)) (J:prog.cellsOf e=sz) (hz:0<sz)
  {n:av}{v:bw}{y:DataW H × aq MemPlace}(K: ∀n cs z,DataW.trod enc prog W base sp hd n e cs=bt z->cs.length=sz->mf y.1 z.1-> ∃x,R W cs x)
  (h:DataW.trod enc prog W base sp hd n t [v]=bt y): ∃l:aq α,Sl W sz R v l:=by
 rcases open_slice I h with⟨g,_⟩ | ⟨a,len,cap,m,k,D,Pl,g,N,hl,O,u,rfl,hx⟩
 ·cases g;exact⟨[],Sl.nil W sz R⟩
 cases g;have L:len<=m:=by rw[u];split<;>omega
 have E: ∀i:Fin len,∃q:α × aq bw,W.cells? base (a.add (i.1 * sz)) sz=bt q.2/\R W q.2 q.1:=by
  intro i;obtain⟨C,h1,h2⟩:=hx i.1 (by have:=i.2;omega);rw[J]at h1;obtain⟨_,c,_⟩:=Ii h1;obtain⟨x,w⟩:=K _ _ _ h2 c (aq.mem_map.2 ⟨i.1,aq.mem_range.2 i.2,rfl⟩);exact⟨(x,C),h1,w⟩
 obtain⟨f,F⟩:=Classical.axiomOfChoice E;refine⟨aq.ofFn fun i=>(f i).1,bt a,cap,by rw[Ig],by rw[Ig];exact hl,(fun h=>nomatch h),fun i G=> ?_⟩;have r:i<len:=by rw[Ig]at G;exact G
 obtain⟨hq,w⟩:=F ⟨i,r⟩;obtain⟨_,c,o⟩:=Ii hq
 have p:a.spot=bn:=by
  obtain⟨A,_⟩:=F ⟨0,ed⟩;obtain⟨_,B,d⟩:=Ii A;have h0:=d 0 hz;rw[Nf ed]at h0
  simpa [bR.add]using aj.cell?_spot h0
 obtain⟨b,off,s⟩:=a;have M:s=bn:=p;subst M;refine⟨b,off,(f ⟨i,r⟩).2,rfl,c,fun j hj=> ?_,?_⟩
 ·have h1:=o j ed;rw[Nf hj]at h1
  have e:((⟨b,off,bn⟩:bR).add (i * sz)).add j=⟨b,off+i * sz+j,bn⟩:=by
   unfold bR.add;by_cases e1:i * sz=0<;>by_cases e2:j=0<;>simp[e1,e2,Tz]
  rw[<-e];exact h1
 rw[aq.getElem_ofFn];exact w
def zE {α:Type}{R:aj->aq bw->α->Prop}(a:prog.underlying t=bt (.slice e)) (b:prog.cellsOf e=sz) (hz:0<sz)
  (c: ∀n cs y,DataW.trod enc prog W base sp hd n e cs=bt y->cs.length=sz-> ∃x,R W cs x)
  {n:av}{v:bw}{y:DataW H × aq MemPlace}(h:DataW.trod enc prog W base sp hd n t [v]=bt y): ∃l:aq α,Sl W sz R v l:=
 NE a b hz (fun n cs z h1 h2 _=>c n cs z h1 h2) h
def fY {F:aL Field}(d:prog.underlying t=bt (.struct F)){n:av}{y:DataW H × aq MemPlace}(h:DataW.trod enc prog W base sp hd n t cs=bt y) (j:av) (f:Field) (c:F[j]? =bt f)
  (u:bT) (g:f.type=u) (o:av) (i:f.offset=o) (k:prog.cellsOf u=1){v:bw}(l:cs[o]? =bt v): ∃m z,DataW.trod enc prog W base sp hd m u [v]=bt z:=by
 obtain⟨xs,m,_,_,_,p,a⟩:=DataW.trod_struct d h;have h1:=a j f c;rw[g,k,i]at h1;have hj:=(aL.getElem?_eq_some_iff.1 c).1
 have h2:(cs.drop o).take 1=[v]:=by
  obtain⟨b,e⟩:=aq.getElem?_eq_some_iff.1 l;rw[Pz b];simp[e]
 rw[h2,Nf ed]at h1;exact⟨m,_,h1⟩
def iW {n:av}{v:bw}{y:DataW H × aq MemPlace}(h:DataW.trod enc prog W base sp hd n 3 [v]=bt y): ∃x,v= jV x:=by
 obtain⟨x,e,_⟩:=DataW.trod_int underlying3 h;cases e;exact⟨x,rfl⟩
def ND {n:av}{v:bw}{y:DataW H × aq MemPlace}(h:DataW.trod enc prog W base sp hd n 5 [v]=bt y): ∃x,v=cW .u8 x:=by
 obtain⟨x,e,_⟩:=DataW.trod_int underlying5 h;cases e;exact⟨x,rfl⟩
def iV:prog.cellsOf 3=1:=by kernel_rfl
def GM:prog.cellsOf 5=1:=by kernel_rfl
def ya9 {n:av}{y:DataW H × aq MemPlace}(h:DataW.trod enc prog W base sp hd n 133 cs=bt y) (hl:cs.length=2): ∃x,fI W cs x:=by
 match cs,hl with
 | [c0,c1],_=>
  obtain⟨_,_,h0⟩:=fY underlying133 h 0 _ rfl 3 rfl 0 rfl iV rfl;obtain⟨_,_,h1⟩:=fY underlying133 h 1 _ rfl 3 rfl 1 rfl iV rfl;obtain⟨x0,rfl⟩:=iW h0;obtain⟨x1,rfl⟩:=iW h1;exact⟨⟨x0,x1⟩,rfl⟩
def yba {n:av}{y:DataW H × aq MemPlace}(h:DataW.trod enc prog W base sp hd n 143 cs=bt y) (hl:cs.length=2): ∃x,iA W cs x:=by
 match cs,hl with
 | [c0,c1],_=>
  obtain⟨_,_,h0⟩:=fY underlying143 h 0 _ rfl 3 rfl 0 rfl iV rfl;obtain⟨_,_,h1⟩:=fY underlying143 h 1 _ rfl 3 rfl 1 rfl iV rfl;obtain⟨x0,rfl⟩:=iW h0;obtain⟨x1,rfl⟩:=iW h1;exact⟨⟨x0,x1⟩,rfl⟩
def ybb {n:av}{y:DataW H × aq MemPlace}(h:DataW.trod enc prog W base sp hd n 207 cs=bt y) (hl:cs.length=2): ∃x,lZ W cs x:=by
 match cs,hl with
 | [c0,c1],_=>
  obtain⟨_,_,h0⟩:=fY underlying207 h 0 _ rfl 3 rfl 0 rfl iV rfl;obtain⟨_,_,h1⟩:=fY underlying207 h 1 _ rfl 3 rfl 1 rfl iV rfl;obtain⟨x0,rfl⟩:=iW h0;obtain⟨x1,rfl⟩:=iW h1;exact⟨⟨x0,x1⟩,rfl⟩
def ybc {n:av}{y:DataW H × aq MemPlace}(h:DataW.trod enc prog W base sp hd n 106 cs=bt y) (hl:cs.length=2): ∃x,nX W cs x:=by
 match cs,hl with
 | [c0,c1],_=>
  obtain⟨_,_,h0⟩:=fY underlying106 h 0 _ rfl 3 rfl 0 rfl iV rfl;obtain⟨_,_,h1⟩:=fY underlying106 h 1 _ rfl 5 rfl 1 rfl GM rfl;obtain⟨x0,rfl⟩:=iW h0;obtain⟨x1,rfl⟩:=ND h1;exact⟨⟨x0,x1⟩,rfl⟩
def ybd {n:av}{y:DataW H × aq MemPlace}(h:DataW.trod enc prog W base sp hd n 145 cs=bt y) (hl:cs.length=3): ∃x,gZ W cs x:=by
 match cs,hl with
 | [c0,c1,c2],_=>
  obtain⟨_,_,h0⟩:=fY underlying145 h 0 _ rfl 3 rfl 0 rfl iV rfl;obtain⟨_,_,h1⟩:=fY underlying145 h 1 _ rfl 3 rfl 1 rfl iV rfl;obtain⟨_,_,h2⟩:=fY underlying145 h 2 _ rfl 3 rfl 2 rfl iV rfl;obtain⟨x0,rfl⟩:=iW h0;obtain⟨x1,rfl⟩:=iW h1;obtain⟨x2,rfl⟩:=iW h2;exact⟨⟨x0,x1,x2⟩,rfl⟩
def ybe {n:av}{y:DataW H × aq MemPlace}(h:DataW.trod enc prog W base sp hd n 108 cs=bt y) (hl:cs.length=3): ∃x,mR W cs x:=by
 match cs,hl with
 | [c0,c1,c2],_=>
  obtain⟨_,_,h0⟩:=fY underlying108 h 0 _ rfl 3 rfl 0 rfl iV rfl;obtain⟨_,_,h1⟩:=fY underlying108 h 1 _ rfl 3 rfl 1 rfl iV rfl;obtain⟨_,_,h2⟩:=fY underlying108 h 2 _ rfl 3 rfl 2 rfl iV rfl;obtain⟨x0,rfl⟩:=iW h0;obtain⟨x1,rfl⟩:=iW h1;obtain⟨x2,rfl⟩:=iW h2;exact⟨⟨x0,x1,x2⟩,rfl⟩
def ybf {n:av}{y:DataW H × aq MemPlace}(h:DataW.trod enc prog W base sp hd n 99 cs=bt y) (hl:cs.length=4): ∃x,mS W cs x:=by
 match cs,hl with
 | [c0,c1,c2,c3],_=>
  obtain⟨_,_,h0⟩:=fY underlying99 h 0 _ rfl 3 rfl 0 rfl iV rfl;obtain⟨_,_,h1⟩:=fY underlying99 h 1 _ rfl 5 rfl 1 rfl GM rfl;obtain⟨_,_,h2⟩:=fY underlying99 h 2 _ rfl 3 rfl 2 rfl iV rfl;obtain⟨_,_,h3⟩:=fY underlying99 h 3 _ rfl 3 rfl 3 rfl iV rfl;obtain⟨x0,rfl⟩:=iW h0;obtain⟨x1,rfl⟩:=ND h1;obtain⟨x2,rfl⟩:=iW h2;obtain⟨x3,rfl⟩:=iW h3;exact⟨⟨x0,x1,x2,x3⟩,rfl⟩
def ybg:prog.cellsOf 78=1:=by kernel_rfl
def NC:prog.cellsOf 54=1:=by kernel_rfl
def ybh:prog.cellsOf 100=1:=by kernel_rfl
def ybi:prog.cellsOf 133=2:=by kernel_rfl
def ybj:prog.cellsOf 143=2:=by kernel_rfl
def ybk:prog.cellsOf 207=2:=by kernel_rfl
def ybl:prog.cellsOf 106=2:=by kernel_rfl
def ybm:prog.cellsOf 145=3:=by kernel_rfl
def ybn:prog.cellsOf 108=3:=by kernel_rfl
def ybo:prog.cellsOf 99=4:=by kernel_rfl
def ybp:prog.cellsOf 80=3:=by kernel_rfl
def ybq:prog.cellsOf 102=7:=by kernel_rfl
def GL:prog.cellsOf 28=6:=by kernel_rfl
def ybr:prog.cellsOf 33=3:=by kernel_rfl
def ybs:prog.cellsOf 23=1:=by kernel_rfl
def ybt:prog.cellsOf 24=1:=by kernel_rfl
def ybu:prog.cellsOf 25=1:=by kernel_rfl
def ybv:prog.cellsOf 26=1:=by kernel_rfl
def ybw:prog.cellsOf 29=1:=by kernel_rfl
def ybx:prog.cellsOf 30=1:=by kernel_rfl
def yby:prog.cellsOf 31=1:=by kernel_rfl
end
def ybz {H:Type}{enc:bT × bw->H}{a:Assume}{C:Checked}{os:Os}{f:FuncId}{F:Func}{s:ChangeSpec}{c:aq PathCond}{A l d n:aU}
  (own:ownKnob C.prog.godebug=bn) (o:os.Started) (N:C.prog.inits.idxOf? f=bn) (p:C.prog.funcs[f]? =bt F)
  (g: ∃(w:aj) (tape:Tape) (i:Input),w.os=os/\(w.forCall tape i).Shaped C.prog/\i.vars=[]/\Input.okWide C.prog (w.forCall tape i) .any w f i/\
   s.pre6 enc C.prog F c A (w.forCall tape i).memory i.args/\a.holds C.prog (lone (Frame.enter C.prog f i.args .normal) [] (w.forCall tape i)))
  (k: ∀(W:aj) (base:av) (args:aL bw) (D G:aq (DataW H)) (b:aq MemPlace),
   (∀(j:av) t v,F.params[j]? =bt t->args[j]? =bt v->bw.okWide C.prog W .any base t v)->
   DataW.Whole enc C.prog F.params.toList s.vars A W args.toList D G b->
   (DataW.weightsEach C.prog (F.params.toList++s.plain.varTypes C.prog) (D++G)).all (· <=reachBytes)=bl->
   Calls C.prog f args W fun e W'=> ∃v,e=cL v/\s.post enc C.prog F A l d n W args v W'):
  ReturnsInHanded a C os f .any (s.pre6 enc C.prog F c A) (s.post enc C.prog F A l d n):=by
 have e:s.pre6 enc C.prog F c A=fun w args=>(s.pre enc C.prog F c A w args/\True)/\sizedMet enc C.prog F (OpenSpec.ofChange s) A w args:=by
  funext w args
  simp[ChangeSpec.pre6]
 rw[e]at g ⊢;exact returnsInHanded_of_change_and (X:=fun _ _=>True) (fun _ _ _ _ h=>h) own o N p g fun W base args D G b h1 h2 _ h4 _ _=>k W base args D G b h1 h2 h4
section
variable {H:Type}{enc:bT × bw->H}{W:aj}{base:av}{sp:av->aU}{hd:aU}
def cX (t:bT) (d:DataW H):Prop:= ∀n∈d.weights prog t,n<=reachBytes
def MY {T:aq bT}{D:aq (DataW H)}(h:(DataW.weightsEach prog T D).all (· <=reachBytes)=bl) (j:av){d:DataW H}(a:T[j]? =bt t) (hd:D[j]? =bt d):cX t d:=
 fun n b=>by simpa using aq.all_eq_true.1 h _ (DataW.weights_mem_each a hd n b)
def yb0 {l:aq (DataW H)}(h: ∀n∈DataW.weightsAll prog e l,n<=reachBytes){d:DataW H}(hd:d∈l):cX e d:=by
 induction l with
 | nil=>cases hd
 | cons x r i=>
  unfold DataW.weightsAll at h;rcases Dv.1 hd with rfl | hd
  ·exact fun n a=>h n (Gi _ a)
  exact i (fun n a=>h n (Hk _ a)) hd
def yb1 (a:prog.underlying t=bt (.slice e)): ∀ {d:DataW H},cX t d-> ∀z,mf d z->cX e z
 | .slice es ss,hl,z,hz=>by
  unfold cX at hl;simp only[DataW.weights,a]at hl;exact yb0 (fun n b=>hl n (Dy _ (Gi _ b))) hz
 | .lit _,_,_,hz | .nil,_,_,hz | .ptr _,_,_,hz | .agg _,_,_,hz | .iface _ _,_,_,hz | .map _,_,_,hz | .held _,_,_,hz=>nomatch hz
def wV {α:Type}{b:av}{R:aj->aq bw->α->Prop}{φ:α->Prop}(g:prog.underlying t=bt (.slice e)) (p:prog.cellsOf e=sz) (hz:0<sz) (q:prog.bytesOf e=b)
  (r: ∀n cs y,DataW.trod enc prog W base sp hd n e cs=bt y->cs.length=sz->cX e y.1-> ∃x,R W cs x/\φ x)
  {n:av}{v:bw}{y:DataW H × aq MemPlace}(h:DataW.trod enc prog W base sp hd n t [v]=bt y) (hl:cX t y.1): ∃l:aq α,Sl W sz R v l/\l.length * b<=reachBytes/\ ∀x∈l,φ x:=by
 have s:=yb1 g hl;obtain⟨l,a,cap,rfl,j,d,f⟩:=NE (R:=fun w cs x=>R w cs x/\φ x) g p hz (fun n cs z h1 h2 h3=>r n cs z h1 h2 (s _ h3)) h;refine⟨l,⟨a,cap,rfl,j,d,fun i o=> ?_⟩,?_,fun x hx=> ?_⟩
 ·obtain⟨b,off,V,h1,h2,h3,h4,_⟩:=f i o;exact⟨b,off,V,h1,h2,h3,h4⟩
 ·rcases open_slice g h with⟨c,_⟩ | ⟨a,len,cap,m,k,D,Pl,c,_,u,_,A,rfl,hx⟩
  ·have e:l.length=0:=by
    have:=aq.singleton_inj.1 c;simp only[bw.slice.injEq]at this;exact this.2.1
   rw[e];simp
  have e:l.length=len:=by
   have:=aq.singleton_inj.1 c;simp only[bw.slice.injEq]at this;exact this.2.1
  unfold cX at hl;simp only[DataW.weights,g,q]at hl;have h1:=hl _ (Dq ..);simp only[Pn,Gy]at h1;rw[e];exact Nj (Ff b (av.le_add_right _ _)) h1
 obtain⟨i,o,rfl⟩:=aq.mem_iff_getElem.1 hx;obtain⟨_,_,_,_,_,_,_,h⟩:=f i o;exact h
def oE {F:aL Field}(c:prog.underlying t=bt (.struct F)){n:av}{y:DataW H × aq MemPlace}(h:DataW.trod enc prog W base sp hd n t cs=bt y) (hl:cX t y.1) (j:av) (f:Field) (b:F[j]? =bt f)
  (u:bT) (d:f.type=u) (o:av) (e:f.offset=o) (k:av) (g:prog.cellsOf u=k){v:aq bw}(i:(cs.drop o).take k=v): ∃m z,DataW.trod enc prog W base sp hd m u v=bt z/\cX u z.1:=by
 obtain⟨xs,m,_,rfl,_,l,a⟩:=DataW.trod_struct c h;have h1:=a j f b;rw[d,g,e,i]at h1;have hj:=(aL.getElem?_eq_some_iff.1 b).1;rw[Nf ed]at h1;refine⟨m,_,h1,fun k p=> ?_⟩;unfold cX at hl;simp only[DataW.weights,c]at hl;refine hl k (DataW.weights_mem_each (j:=j) ?_ ?_ k p)
 ·rw[Pp,Ge,b];simp[d]
 rw[Pp,Nf ed];rfl
def u8W {n:av}{v:bw}{y:DataW H × aq MemPlace}(h:DataW.trod enc prog W base sp hd n 5 [v]=bt y): ∃x,v=cW .u8 x/\0<=x/\x<=255:=by
 obtain⟨x,e,_,a⟩:=DataW.trod_int underlying5 h;cases e;refine⟨x,rfl,?_⟩
 simpa [Lit.wf,IntKind.min,IntKind.max,IntKind.signed,IntKind.bits]using a
def GK {n:av}{v:bw}{y:DataW H × aq MemPlace}(h:DataW.trod enc prog W base sp hd n 22 [v]=bt y) (hl:cX 22 y.1): ∃l,Sl W 1 dG v l/\aO l:=by
 obtain⟨l,h1,_,h2⟩:=wV (R:=dG) (φ:=fun x=>0<=x/\x<=255) (b:=1) underlying22 GM eh ef (fun n cs y a d _=>by
  match cs,d with
  | [c],_=>
   obtain⟨x,rfl,hx⟩:=u8W a
   exact⟨x,rfl,hx⟩) h hl
 exact⟨l,h1,h2⟩
def MX {n:av}{v:bw}{y:DataW H × aq MemPlace}(h:DataW.trod enc prog W base sp hd n 54 [v]=bt y) (hl:cX 54 y.1): ∃l,eP W v l/\l.length<=17592186044416:=by
 obtain⟨l,⟨a,cap,rfl,h2⟩,h3,_⟩:=wV (R:=rh) (φ:=fun _=>True) (b:=8) underlying54 iV eh ef (fun m cs y d hl _=>by
  match cs,hl with
  | [c],_=>
   obtain⟨x,rfl⟩:=iW d
   exact⟨x,rfl,Py⟩) h hl
 refine⟨l,⟨a,l.length,cap,rfl,rfl,fun i f=> ?_⟩,by unfold reachBytes at h3;omega⟩;obtain⟨b,off,V,e,_,g,rfl⟩:=h2.at_ i f;exact⟨b,off,e,by simpa using g 0 ee⟩
def yb2 {n:av}{y:DataW H × aq MemPlace}(h:DataW.trod enc prog W base sp hd n 80 cs=bt y) (hl:cs.length=3) (d:cX 80 y.1): ∃x,cU W cs x/\x.ends.length<=8796093022208:=by
 match cs,hl with
 | [c0,c1,c2],_=>
  obtain⟨_,_,h0⟩:=fY underlying80 h 0 _ rfl 3 rfl 0 rfl iV rfl;obtain⟨_,_,h1⟩:=fY underlying80 h 1 _ rfl 3 rfl 1 rfl iV rfl;obtain⟨_,_,h2,c⟩:=oE underlying80 h d 2 _ rfl 78 rfl 2 rfl 1 ybg rfl;obtain⟨x0,rfl⟩:=iW h0;obtain⟨x1,rfl⟩:=iW h1;obtain⟨l,hl,e,_⟩:=wV (R:=fI) (φ:=fun _=>True) (b:=16) underlying78 ybi eh ef (fun _ _ _ a b _=>(ya9 a b).imp fun _ h=>⟨h,Py⟩) h2 c;exact⟨⟨x0,x1,l⟩,⟨c2,rfl,hl⟩,by unfold reachBytes at e;show l.length<=_;omega⟩
def rtW {n:av}{y:DataW H × aq MemPlace}(h:DataW.trod enc prog W base sp hd n 102 cs=bt y) (hl:cs.length=7) (c:cX 102 y.1): ∃x,fH W cs x/\x.fit:=by
 match cs,hl with
 | [c0,c1,c2,c3,c4,c5,c6],_=>
  obtain⟨_,_,h0⟩:=fY underlying102 h 0 _ rfl 3 rfl 0 rfl iV rfl;obtain⟨_,_,h1⟩:=fY underlying102 h 1 _ rfl 3 rfl 1 rfl iV rfl;obtain⟨_,_,h2⟩:=fY underlying102 h 2 _ rfl 3 rfl 2 rfl iV rfl;obtain⟨_,_,h3,w3⟩:=oE underlying102 h c 3 _ rfl 54 rfl 3 rfl 1 NC rfl;obtain⟨_,_,h4,w4⟩:=oE underlying102 h c 4 _ rfl 54 rfl 4 rfl 1 NC rfl;obtain⟨_,_,h5,w5⟩:=oE underlying102 h c 5 _ rfl 100 rfl 5 rfl 1 ybh rfl;obtain⟨_,_,h6⟩:=fY underlying102 h 6 _ rfl 3 rfl 6 rfl iV rfl;obtain⟨x0,rfl⟩:=iW h0;obtain⟨x1,rfl⟩:=iW h1;obtain⟨x2,rfl⟩:=iW h2;obtain⟨x6,rfl⟩:=iW h6;obtain⟨l3,k3,b3⟩:=MX h3 w3;obtain⟨l4,k4,b4⟩:=MX h4 w4;obtain⟨l5,k5,b5,_⟩:=wV (R:=lZ) (φ:=fun _=>True) (b:=16) underlying100 ybk eh ef (fun _ _ _ a b _=>(ybb a b).imp fun _ h=>⟨h,Py⟩) h5 w5;exact⟨⟨x0,x1,x2,l3,l4,l5,x6⟩,⟨c3,c4,c5,rfl,k3,k4,k5⟩,b3,b4,by unfold reachBytes at b5;show l5.length<=_;omega⟩
def GJ {n:av}{c0 c1 c2 c3 c4 c5:bw}{y:DataW H × aq MemPlace}(h:DataW.trod enc prog W base sp hd n 28 [c0,c1,c2,c3,c4,c5]=bt y) (c:cX 28 y.1):
  ∃x:Pl,c0=↑x.ver/\c1=↑x.par/\bN W c2 c3 c4 c5 x/\x.Wide:=by
 obtain⟨_,_,h0⟩:=fY underlying28 h 0 _ rfl 3 rfl 0 rfl iV rfl;obtain⟨_,_,h1⟩:=fY underlying28 h 1 _ rfl 3 rfl 1 rfl iV rfl;obtain⟨_,_,h2,w2⟩:=oE underlying28 h c 2 _ rfl 23 rfl 2 rfl 1 ybs rfl;obtain⟨_,_,h3⟩:=fY underlying28 h 3 _ rfl 24 rfl 3 rfl ybt rfl;obtain⟨_,_,h4⟩:=fY underlying28 h 4 _ rfl 25 rfl 4 rfl ybu rfl;obtain⟨_,_,h5,w5⟩:=oE underlying28 h c 5 _ rfl 26 rfl 5 rfl 1 ybv rfl;obtain⟨x0,rfl⟩:=iW h0;obtain⟨x1,rfl⟩:=iW h1;obtain⟨l2,k2,_,b2⟩:=wV (R:=cU) (φ:=fun x=>x.ends.length<=8796093022208) (b:=40) underlying23 ybp eh ef (fun _ _ _=>yb2) h2 w2;obtain⟨l3,k3⟩:=zE (R:=iA) underlying24 ybj eh (fun _ _ _=>yba) h3;obtain⟨l4,k4⟩:=zE (R:=gZ) underlying25 ybm eh (fun _ _ _=>ybd) h4;obtain⟨l5,k5,_,b5⟩:=wV (R:=fH) (φ:=Rt.fit) (b:=104) underlying26 ybq eh ef (fun _ _ _=>rtW) h5 w5;exact⟨⟨x0,x1,l2,l3,l4,l5⟩,rfl,rfl,⟨k2,k3,k4,k5⟩,fun i a=>b2 _ (Nn a),fun i a=>b5 _ (Nn a)⟩
def yb3 {n:av}{c0 c1 c2:bw}{y:DataW H × aq MemPlace}(h:DataW.trod enc prog W base sp hd n 33 [c0,c1,c2]=bt y): ∃x,fU W c0 c1 c2 x:=by
 obtain⟨_,_,h0⟩:=fY underlying33 h 0 _ rfl 29 rfl 0 rfl ybw rfl;obtain⟨_,_,h1⟩:=fY underlying33 h 1 _ rfl 30 rfl 1 rfl ybx rfl;obtain⟨_,_,h2⟩:=fY underlying33 h 2 _ rfl 31 rfl 2 rfl yby rfl;obtain⟨l0,k0⟩:=zE (R:=nX) underlying29 ybl eh (fun _ _ _=>ybc) h0;obtain⟨l1,k1⟩:=zE (R:=mR) underlying30 ybn eh (fun _ _ _=>ybe) h1;obtain⟨l2,k2⟩:=zE (R:=mS) underlying31 ybo eh (fun _ _ _=>ybf) h2;exact⟨⟨l0,l1,l2⟩,k0,k1,k2⟩
def yb4 {v:bw}{d:DataW H}{p:aq MemPlace}{r:Reach}{b0:av}(b:bw.okWide prog W r b0 22 v) (h:DataW.Trod enc prog W base sp hd 22 v d p) (hl:cX 22 d): ∃a c l,v=cJ a (aq.length l) c/\aB W 1 dG a c l/\aO l:=by
 obtain⟨n,h⟩:=h;obtain⟨a0,l0,c0,rfl⟩:=okWide_slice underlying22 b;obtain⟨l,⟨a,c,e,h1⟩,h2⟩:=GK (v:=cJ a0 l0 c0) h hl;exact⟨a,c,l,e,h1,h2⟩
def yb5:prog.cellsOf 35=25:=by kernel_rfl
def MV:prog.cellsOf 22=1:=by kernel_rfl
def yb6:prog.cellsOf 4=1:=by kernel_rfl
end
