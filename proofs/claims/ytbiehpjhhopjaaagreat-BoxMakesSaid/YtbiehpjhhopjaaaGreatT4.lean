/- Walks, laws. -/
import Derived.Test.YtbiehpjhhopjaaaGreatT3
import Derived.RangeFuncNested
import Derived.RangeFuncBound
import Derived.Shelf.RegionOpen
import Derived.OwnWalkIn
import Derived.LoopNIn
import Derived.LoopIn
import Derived.Lib.Bytes
set_option linter.all false
set_option maxRecDepth 100000
set_option maxHeartbeats 16000000
namespace Go.Proofs.YtbiehpjhhopjaaaGreat
open _root_ renaming Array->aL,Bool->aU,Bool.false->aW,Decidable.decide->ab,List->aq,Int->ar,Nat->av,Option->ax,Bool.true->bl,Option.none->bn,Option.some->bt,Decidable->cG,absurd->cv,inferInstance->cx
open Go renaming World->aj,undef->bE,RowKit.Hid->bG,Addr->bR,TypeId->bT,Value->bw,RowKit.Below->cB,Value.slice->cJ,Ending.returned->cL,Obj.cells->cO,Value.int->cW,Value.pointer->cY,Value.agg->cZ,World.setCell->cd,World.alloc->cj,Value.bool->db,Value.tuple->dw
variable {r:Rt}{n:ar}{W:aj}{cap e off sz:av}{o:Obj}{pre:aq av}{T:bw}
def gS (s:aF) (a b:ar):ar:=
 if s.pt=0 then(if(a=0/\b=1)\/(a=1/\b=0)then 0 else-1)
 else if a=0/\(b=1\/b=2)then b else if b=0/\(a=1\/a=2)then a else-1
def VN {s:aF}(h:s.Shaped) (a b:ar):lO s a b=if a<0\/2<a\/b<0\/2<b\/rC s.pt a b=0 then 2 else 0:=by
 unfold lO;rw[Nm (by simpa using h)]
def z1r {s:aF}(h:s.Shaped){a b:ar}(H: ¬0<=gS s a b):lO s a b≠0:=by
 rw[VN h];unfold gS at H;unfold rC;split at H
 ·rename_i h0
  rw[Np h0];split at H
  ·omega
  rename_i h1;rw[Nm h1];simp
 rename_i h0
 rw[Nm h0];split at H
 ·omega
 split at H
 ·omega
 rename_i h1 h2
 have e1: ¬((a=0/\b=1)\/(a=1/\b=0)):=ed;have e2: ¬((a=0/\b=2)\/(a=2/\b=0)):=ed;rw[Nm e1,Nm e2];simp
def VM {s:aF}(h:s.Shaped){a b:ar}(H:0<=gS s a b):lO s a b=0/\nU s a b=gS s a b:=by
 have key:lO s a b=0/\(rC s.pt a b).tmod 3=gS s a b:=by
  rw[VN h];unfold gS at *;unfold rC;by_cases h0:s.pt=0
  ·rw[Np h0]at H;by_cases h1:(a=0/\b=1)\/(a=1/\b=0)
   ·simp only[Np h0,Np h1];refine⟨by rw[Nm ed],eh⟩
   rw[Nm h1]at H;omega
  rw[Nm h0]at H;simp only[Nm h0];by_cases h1:a=0/\(b=1\/b=2)
  ·obtain⟨rfl,h2⟩:=h1;rcases h2 with rfl | rfl<;>refine⟨ee,ee⟩
  rw[Nm h1]at H;by_cases h2:b=0/\(a=1\/a=2)
  ·obtain⟨rfl,h3⟩:=h2;rcases h3 with rfl | rfl<;>refine⟨ee,ee⟩
  rw[Nm h2]at H;omega
 refine⟨key.1,?_⟩;unfold nU;rw[Np key.1];exact key.2
def fF (p:Pl) (sec en:ar):ar:=match p.G.find? (fun x=>ab (x.sec=sec/\x.en=en))with | some x=>x.id | none=>0
def bO (p:Pl) (r:Rt) (i:av):aF:=dW aF.id lE p.S ((aI r).getD i 0)
def kZ (p:Pl) (r:Rt) (i:av) (a:ar) (e:av):aU:=
 ab (0<=gS (bO p r i) a e)&&
  (if i+1=r.A.length then ab ((r.X=0/\((bO p r i).ends.getD e ⟨0,0⟩).tt=0)\/(r.X≠0/\fF p (bO p r i).id e=r.X))
   else ab (((bO p r i).ends.getD e ⟨0,0⟩).tt=(aI r).getD (i+1) 0))
def jL (p:Pl) (r:Rt) (i:av) (a:ar):ax av:=(aq.range (bO p r i).ends.length).find? (kZ p r i a)
structure Rw where
 ins:aq ar
 outs:aq ar
 j:Jn
def qE (p:Pl) (r:Rt) (i:av) (w:Rw):ax Rw:=
 if w.j.tt≠(aI r).getD i 0 then bn
 else if i+1=(aI r).length/\0<r.O.length then bt ⟨w.ins++[w.j.en],w.outs++[-1],w.j⟩
 else match jL p r i w.j.en with
  | none=>bn
  | some e=>bt ⟨w.ins++[w.j.en],w.outs++[(e:ar)],(bO p r i).ends.getD e ⟨0,0⟩⟩
def iL (p:Pl) (r:Rt):av->ax Rw
 | 0=>bt ⟨[],[],zN p r⟩
 | i+1=>(iL p r i).bind (qE p r i)
def iM (p:Pl) (r:Rt):ax Rw:=iL p r (aI r).length
def rA (p:Pl) (r:Rt) (i:av) (a o:ar):aq dV:=
 if(bO p r i).pt=0 then []else
  if 0<(if 0<=o then gS (bO p r i) a o else a)then [⟨(bO p r i).pt,if 0<=o then gS (bO p r i) a o else a,i⟩]else []
def lP (p:Pl) (r:Rt) (ins outs:aq ar):av->aq dV
 | 0=>[]
 | i+1=>lP p r ins outs i++rA p r i (ins.getD i 0) (outs.getD i 0)
def oA (r:Rt) (outs:aq ar):av->aq Jn
 | 0=>[]
 | i+1=>oA r outs i++(if 0<=outs.getD i 0 then [⟨(aI r).getD i 0,outs.getD i 0⟩]else [])
def LF (p:Pl) (r:Rt) (ins outs:aq ar) (a o:ar): ∀i,i<=ins.length->i<=outs.length->lP p r (ins++[a]) (outs++[o]) i=lP p r ins outs i
 | 0,_,_=>rfl
 | i+1,h1,h2=>by
  rw[lP,lP,LF p r ins outs a o i ed ed];have e1:(ins++[a]).getD i 0=ins.getD i 0:=by refine jd ?_;rw[Pd ed]
  have e2:(outs++[o]).getD i 0=outs.getD i 0:=by refine jd ?_;rw[Pd ed]
  rw[e1,e2]
def LE (r:Rt) (outs:aq ar) (o:ar): ∀i,i<=outs.length->oA r (outs++[o]) i=oA r outs i
 | 0,_=>rfl
 | i+1,h2=>by
  rw[oA,oA,LE r outs o i ed];have e2:(outs++[o]).getD i 0=outs.getD i 0:=by refine jd ?_;rw[Pd ed]
  rw[e2]
def zT (l:aq ar) (a:ar):(l++[a]).getD l 0=a:=by simp[Na]
def CX (p:Pl) (r:Rt): ∀i w,iL p r i=bt w->w.ins.length=i/\w.outs.length=i
 | 0,w,h=>by cases h;exact⟨rfl,rfl⟩
 | i+1,w,h=>by
  rw[iL]at h;cases hp:iL p r i with
  | none=>rw[hp]at h;cases h
  | some v=>
   rw[hp]at h;have h:qE p r i v=bt w:=h;obtain⟨h1,h2⟩:=CX p r i v hp;unfold qE at h;split at h
   ·cases h
   split at h
   ·cases h;simp[h1,h2]
   split at h
   ·cases h
   cases h;simp[h1,h2]
structure rP (p:Pl) (r:Rt):Prop where
 shaped: ∀i,i<(aI r).length->dX aF.id p.S ((aI r).getD i 0)=bl/\(bO p r i).Shaped/\(bO p r i).id=(aI r).getD i 0
 ends: ∀i,i<(aI r).length-> ∀e (he:e<(bO p r i).ends.length),(bO p r i).ends[e].tt=0->(bO p r i).ends[e].en=0
 A:1<=r.A.length
 X:r.X≠0-> ∀s e:ar,fF p s e=r.X↔(s=(iZ p r.X).sec/\e=(iZ p r.X).en)
 O:r.X=0->r.O.length=0
def oY (r:Rt):(aI r).length=r.A.length+r.O.length:=by unfold aI;simp
def VL {f g:av->aU}: ∀ {l:aq av},(∀e∈l,f e=g e)->l.find? f=l.find? g
 | [],_=>rfl
 | x::l,h=>by
  rw[aq.find?_cons,aq.find?_cons,h x Dq,VL fun e he=>h e (Dy _ he)]
def z1s {p:Pl}(c:rP p r){i:av}(d:i<(aI r).length){k:Wk}(hl:k.lost=aW){a:ar}(f:k.inn.en=a){right:av->Jn->aU}
  (j: ∀e,e<(bO p r i).ends.length->right e ((bO p r i).ends.getD e ⟨0,0⟩)=(if i+1=r.A.length then ab ((r.X=0/\((bO p r i).ends.getD e ⟨0,0⟩).tt=0)\/(r.X≠0/\fF p (bO p r i).id e=r.X))else ab (((bO p r i).ends.getD e ⟨0,0⟩).tt=(aI r).getD (i+1) 0))):
  (aq.range (bO p r i).ends.length).find? (oT (bO p r i) k right)=jL p r i a:=by
 unfold jL;refine VL fun e he=> ?_;have he:=aq.mem_range.1 he;unfold oT kZ;rw[hl,j e he,f];simp only[Hp,Fa]
 congr 1
 rw[Ss];have H:=(c.shaped i d).2.1;constructor
 ·intro h;by_cases b:0<=gS (bO p r i) a e
  ·exact b
  exact cv h (z1r H b)
 intro h;exact(VM H h).1
def z1t {p:Pl}(b:rP p r){i:av}(c:i<(aI r).length){a:ar}(he:0<=gS (bO p r i) a e) (k:Wk):
  kB k (bO p r i).pt (nU (bO p r i) a e) i={k with asks:=k.asks++rA p r i a e}:=by
 have H:=(b.shaped i c).2.1;rw[(VM H he).2];unfold kB rA;rw[Np (Hy e)];have d:0<=(bO p r i).pt:=by rcases H with h | h<;>omega
 by_cases h0:(bO p r i).pt=0
 ·rw[Nm ed,Np h0];simp
 rw[Nm h0];by_cases h1:0<gS (bO p r i) a e
 ·rw[Np ⟨ed,h1⟩,Np h1]
 rw[Nm (fun h=>h1 h.2),Nm h1];simp
def fL (p:Pl) (r:Rt) (i:av) (w:Rw):Wk:=⟨w.j,lP p r w.ins w.outs i,oA r w.outs i,aW⟩
def z1u {p:Pl}(b:rP p r){i:av}(c:i<(aI r).length){w:Rw}(d:w.ins.length=i/\w.outs.length=i) (hj:w.j.tt=(aI r).getD i 0){right:av->Jn->aU}
  (f: ∀e,e<(bO p r i).ends.length->right e ((bO p r i).ends.getD e ⟨0,0⟩)=(if i+1=r.A.length then ab ((r.X=0/\((bO p r i).ends.getD e ⟨0,0⟩).tt=0)\/(r.X≠0/\fF p (bO p r i).id e=r.X))else ab (((bO p r i).ends.getD e ⟨0,0⟩).tt=(aI r).getD (i+1) 0))):
  match jL p r i w.j.en with
  | none=>(lD p.S (fL p r i w) ((aI r).getD i 0) i right).lost=bl
  | some e=>lD p.S (fL p r i w) ((aI r).getD i 0) i right=fL p r (i+1) ⟨w.ins++[w.j.en],w.outs++[(e:ar)],(bO p r i).ends.getD e ⟨0,0⟩⟩:=by
 have H:qJ p.S (fL p r i w) ((aI r).getD i 0):=⟨(b.shaped i c).1,hj⟩;have h1:kP p.S (fL p r i w) ((aI r).getD i 0)=bO p r i:=by unfold kP;rw[Np H];rfl
 have h2:fG p.S (fL p r i w) ((aI r).getD i 0)=fL p r i w:=by unfold fG;rw[Np H]
 have j:=z1s b c (k:=fL p r i w) rfl (a:=w.j.en) rfl f;unfold lD;rw[h1,h2];unfold mN;rw[j];cases ho:jL p r i w.j.en with
 | none=>rfl
 | some e=>
  simp only;have hok:=Gn ho;unfold kZ at hok;rw[Dt,Dr]at hok;have n:=z1t b c hok.1 (fL p r i w);have e0:(fL p r i w).inn.en=w.j.en:=rfl;rw[e0,n];unfold fL;have g1:(w.ins++[w.j.en]).getD i 0=w.j.en:=by rw[<-d.1];exact zT _ _
  have g2:(w.outs++[(e:ar)]).getD i 0=(e:ar):=by rw[<-d.2];exact zT _ _
  simp only[lP,oA,LF p r w.ins w.outs w.j.en e i ed ed,LE r w.outs e i ed,g1,g2,Np (Hy e)]
def z1v {p:Pl}{i:av}{k:Wk}(h:k.inn.tt≠(aI r).getD i 0):(eW p r i k).lost=bl:=by
 have a: ¬qJ p.S k ((aI r).getD i 0):=fun b=>h b.2;have hR:(fG p.S k ((aI r).getD i 0)).lost=bl:=by unfold fG;rw[Nm a]
 have H: ∀id pl right,id=(aI r).getD i 0->(lD p.S k id pl right).lost=bl:=by
  intro id pl right e;subst e;cases hq:(lD p.S k ((aI r).getD i 0) pl right).lost with
  | true=>rfl
  | false=>
   have:=(km _ _ _ _ _ hq).1;rw[hR]at this;cases this
 unfold eW;split
 ·exact H _ _ _ rfl
 split
 ·exact H _ _ _ rfl
 split
 ·unfold pO;rw[Nm Eg];exact hR
 exact H _ _ _ rfl
def z1w {p:Pl}(H:rP p r){i:av}(a:i<(aI r).length) (b:i+1=r.A.length) (hx:r.X=0) (e:av) (he:e<(bO p r i).ends.length):
  rV e ((bO p r i).ends.getD e ⟨0,0⟩)=(if i+1=r.A.length then ab ((r.X=0/\((bO p r i).ends.getD e ⟨0,0⟩).tt=0)\/(r.X≠0/\fF p (bO p r i).id e=r.X))else ab (((bO p r i).ends.getD e ⟨0,0⟩).tt=(aI r).getD (i+1) 0)):=by
 rw[Np b];unfold rV;rw[Ss];have h1:(bO p r i).ends.getD e ⟨0,0⟩=(bO p r i).ends[e]:=by simp[Na,Nf he]
 rw[h1];constructor
 ·intro h;exact .inl ⟨hx,h.1⟩
 rintro(h | h)
 ·exact⟨h.2,H.ends i a e he h.2⟩
 exact cv hx h.1
def z1x {p:Pl}(H:rP p r){i:av}(a:i<(aI r).length) (b:i+1=r.A.length) (hx:r.X≠0) (e:av) (he:e<(bO p r i).ends.length):
  tE ((aI r).getD i 0) (iZ p r.X) e ((bO p r i).ends.getD e ⟨0,0⟩)=(if i+1=r.A.length then ab ((r.X=0/\((bO p r i).ends.getD e ⟨0,0⟩).tt=0)\/(r.X≠0/\fF p (bO p r i).id e=r.X))else ab (((bO p r i).ends.getD e ⟨0,0⟩).tt=(aI r).getD (i+1) 0)):=by
 rw[Np b];unfold tE;rw[Ss,<-(H.shaped i a).2.2,<-H.X hx];constructor
 ·intro h;exact .inr ⟨hx,h⟩
 rintro(h | h)
 ·exact cv h.1 hx
 exact h.2
def z1y {p:Pl}{i:av}(H:i+1≠r.A.length) (e:av) (he:e<(bO p r i).ends.length):
  uX ((aI r).getD (i+1) 0) e ((bO p r i).ends.getD e ⟨0,0⟩)=(if i+1=r.A.length then ab ((r.X=0/\((bO p r i).ends.getD e ⟨0,0⟩).tt=0)\/(r.X≠0/\fF p (bO p r i).id e=r.X))else ab (((bO p r i).ends.getD e ⟨0,0⟩).tt=(aI r).getD (i+1) 0)):=by
 rw[Nm H];rfl
theorem z1z {p:Pl}(a:rP p r){i:av}(b:i<(aI r).length){w:Rw}(d:w.ins.length=i/\w.outs.length=i):
  match qE p r i w with
  | none=>(eW p r i (fL p r i w)).lost=bl
  | some v=>eW p r i (fL p r i w)=fL p r (i+1) v:=by
 have j:=oY r;unfold qE;by_cases hj:w.j.tt≠(aI r).getD i 0
 ·rw[Np hj];exact z1v hj
 rw[Nm hj];have hj:=Classical.not_not.1 hj;by_cases f:i+1=(aI r).length/\0<r.O.length
 ·rw[Np f];show eW p r i (fL p r i w)=fL p r (i+1) ⟨w.ins++[w.j.en],w.outs++[-1],w.j⟩;have c:qJ p.S (fL p r i w) ((aI r).getD i 0):=⟨(a.shaped i b).1,hj⟩;have h1:kP p.S (fL p r i w) ((aI r).getD i 0)=bO p r i:=(by unfold kP;rw[Np c];rfl);have h2:fG p.S (fL p r i w) ((aI r).getD i 0)=fL p r i w:=(by unfold fG;rw[Np c]);unfold eW;rw[Nm ed,Nm ed,Np f.1];unfold pO;rw[h1,h2];have g1:(w.ins++[w.j.en]).getD i 0=w.j.en:=(by rw[<-d.1];exact zT _ _);have g2:(w.outs++[(-1:ar)]).getD i 0= -1:=(by rw[<-d.2];exact zT _ _);have e0:(fL p r i w).inn.en=w.j.en:=rfl;have e1:(fL p r i w).lost=aW:=rfl;have H:0<=(bO p r i).pt:=by rcases(a.shaped i b).2.1 with h | h<;>omega
  have E:fL p r (i+1) ⟨w.ins++[w.j.en],w.outs++[-1],w.j⟩={fL p r i w with asks:=(fL p r i w).asks++rA p r i w.j.en (-1)}:=by
   unfold fL;simp only[lP,oA,LF p r w.ins w.outs w.j.en (-1) i ed ed,LE r w.outs (-1) i ed,g1,g2];simp
  rw[E,e0,e1];unfold rA kB;by_cases h0:0<w.j.en
  ·rw[Np ⟨rfl,h0⟩];by_cases h3:(bO p r i).pt=0
   ·rw[Nm ed,Np h3];simp
   rw[Np ⟨ed,h0⟩,Nm h3];simp[h0]
  rw[Nm (fun h=>h0 h.2)];by_cases h3:(bO p r i).pt=0
  ·rw[Np h3];simp
  rw[Nm h3];simp[h0]
 rw[Nm f]
 have key: ∀right,(∀e,e<(bO p r i).ends.length->right e ((bO p r i).ends.getD e ⟨0,0⟩)=(if i+1=r.A.length then ab ((r.X=0/\((bO p r i).ends.getD e ⟨0,0⟩).tt=0)\/(r.X≠0/\fF p (bO p r i).id e=r.X))else ab (((bO p r i).ends.getD e ⟨0,0⟩).tt=(aI r).getD (i+1) 0)))->eW p r i (fL p r i w)=lD p.S (fL p r i w) ((aI r).getD i 0) i right->
   match (match jL p r i w.j.en with | none=>bn | some e=>bt (⟨w.ins++[w.j.en],w.outs++[(e:ar)],(bO p r i).ends.getD e ⟨0,0⟩⟩:Rw))with
   | none=>(eW p r i (fL p r i w)).lost=bl
   | some v=>eW p r i (fL p r i w)=fL p r (i+1) v:=by
  intro right k he;have:=z1u a b d hj k;rw[he];cases ho:jL p r i w.j.en with
  | none=>rw[ho]at this;exact this
  | some e=>rw[ho]at this;exact this
 by_cases H:i+1=r.A.length
 ·by_cases hx:r.X=0
  ·exact key rV (z1w a b H hx) (by unfold eW;rw[Np ⟨H,hx⟩])
  exact key _ (z1x a b H hx) (by unfold eW;rw[Nm (fun h=>hx h.2),Np H])
 exact key _ (z1y H) (by unfold eW;rw[Nm (fun h=>H h.1),Nm H,Nm ed])
def CV {p:Pl}(H:rP p r): ∀i,i<=(aI r).length->
  match iL p r i with
  | none=>(eM p r i).lost=bl
  | some w=>eM p r i=fL p r i w
 | 0,_=>rfl
 | i+1,hi=>by
  have I:=CV H i ed;rw[iL];cases hp:iL p r i with
  | none=>
   rw[hp]at I;have I:(eM p r i).lost=bl:=I;show(eW p r i (eM p r i)).lost=bl;cases hq:(eW p r i (eM p r i)).lost with
   | true=>rfl
   | false=>
    have:=(kl p r i _ hq).1;rw[I]at this;cases this
  | some w=>
   rw[hp]at I;have I:eM p r i=fL p r i w:=I;have h1:=z1z H (i:=i) ed (CX p r i w hp);show match qE p r i w with | none=>(eW p r i (eM p r i)).lost=bl | some v=>eW p r i (eM p r i)=fL p r (i+1) v
   rw[I];exact h1
def z11 {α:Type}{f:α->ar}{l:aq α}(h:dE f l l){x y:α}(hx:x∈l) (H:y∈l) (e:f x=f y):x=y:=by
 obtain⟨i,a,rfl⟩:=No hx;obtain⟨j,hj,rfl⟩:=No H;rcases Fv i j with q | q | q
 ·have:=wP h hj q;omega
 ·subst q;rfl
 have:=wP h a q;omega
def z12 {l:aq aF}(h:eR l l){x y:aF}(hx:x∈l) (a:y∈l) (e:x.id=y.id):x=y:=by
 obtain⟨i,H,rfl⟩:=No hx;obtain⟨j,hj,rfl⟩:=No a;rcases Fv i j with q | q | q
 ·have:=((h j hj hj).2 i q).1;omega
 ·subst q;rfl
 have:=((h i H H).2 j q).1;omega
def zR {p:Pl}(h:bX p):eR p.S p.S:=h.1.2.2.2.2.2.1
def VK {p:Pl}(h:bX p):pA p.S p.S:=h.1.2.2.2.2.2.2
def zC {p:Pl}(h:bX p):dE Sg.id p.G p.G:=h.2.1.2.1.1.1
def IY {p:Pl}(h:bX p):rD (dQ p.S p.S) p.G p.G:=h.2.1.2.1.2
def IX {p:Pl}(h:bX p):dE Pt.id p.P p.P:=h.2.1.1.1.1
def IW {p:Pl}(h:bX p):dE Rt.id p.R p.R:=h.2.1.2.2.1
def qD {p:Pl}(h:bX p){k:av}(H:k<p.R.length):iU (dQ p.S p.S) p.G p.P p.R[k]:=h.2.2 k H H
def CR {l:aq aF}(h:nV (dQ l l) n):dX aF.id l n=bl:=by
 obtain⟨h0,h1,h2⟩:=h;unfold dQ at h2;rw[Ph]at h2;cases hf:l.find? (fun s=>ab (s.id=(n.toNat:ar)))with
 | none=>rw[hf]at h2;simp at h2
 | some s=>
  have h3:=Gn hf;have h4:=Sx hf;unfold dX;rw[Tg];exact⟨s,h4,by simp at h3 ⊢;omega⟩
def VJ {l:aq aF}(a:eR l l)(h:dX aF.id l n=bl):nV (dQ l l) n:=by
 have h1:=qK (z:=lE) h;obtain⟨i,H,e⟩:=No h1.1;have h2:=(a i H H).1;have h3:l[i].id=n:=by rw[e];exact h1.2
 refine⟨ed,ed,?_⟩;rw[zU a H n.toNat ed];rcases h2.2.2 with h4 | h4<;>omega
def z13 {f:av->ar}{l:aq Sg}(h:rD f l l){x y:Sg}(hx:x∈l) (a:y∈l) (e1:x.sec=y.sec) (e2:x.en=y.en):x=y:=by
 obtain⟨i,H,rfl⟩:=No hx;obtain⟨j,hj,rfl⟩:=No a;rcases Fv i j with q | q | q
 ·exact cv ⟨e1,e2⟩ ((h j hj hj).2 i q)
 ·subst q;rfl
 exact cv ⟨e1.symm,e2.symm⟩ ((h i H H).2 j q)
def VI {p:Pl}(h:bX p){s e:ar}{x:Sg}(hx:x∈p.G) (h1:x.sec=s) (h2:x.en=e):fF p s e=x.id:=by
 unfold fF;cases hf:p.G.find? (fun x=>ab (x.sec=s/\x.en=e))with
 | none=>
  have:=Fq.1 hf x hx;exact cv (by simp[h1,h2]) this
 | some y=>
  have h3:=Gn hf;have h4:=Sx hf;simp only[Dr]at h3;have:=z13 (IY h) h4 hx ed ed;rw[this]
def IV {p:Pl}{s e:ar}(H:n≠0) (h:fF p s e=n): ∃x∈p.G,x.sec=s/\x.en=e/\x.id=n:=by
 unfold fF at h;cases hf:p.G.find? (fun x=>ab (x.sec=s/\x.en=e))with
 | none=>rw[hf]at h;exact cv h.symm H
 | some y=>
  rw[hf]at h;have h3:=Gn hf;simp only[Dr]at h3;exact⟨y,Sx hf,h3.1,h3.2,h⟩
def wO {p:Pl}(h:bX p){k:av}(n:k<p.R.length):rP p p.R[k]:=by
 obtain⟨b,o,hF⟩:=qD h n
 have H: ∀i (a:i<(aI p.R[k]).length),dX aF.id p.S ((aI p.R[k]).getD i 0)=bl:=fun i a=>by
  have e:(aI p.R[k]).getD i 0=(p.R[k].A++p.R[k].O)[i]'a:=by
   rw[Na,Nf a];rfl
  rw[e];exact CR (o i a a).1
 refine⟨fun i a=> ?_,fun i a e he h0=> ?_,b.2.2.2.1,fun hx s e=> ?_,fun hx=>b.2.2.1 hx⟩
 ·have h1:=qK (z:=lE) (H i a);obtain⟨j,hj,e⟩:=No h1.1;have h2:=(zR h j hj hj).1.2.2;exact⟨H i a,by unfold bO;rw[<-e];exact h2,h1.2⟩
 ·have h1:=qK (z:=lE) (H i a);obtain⟨j,hj,E⟩:=No h1.1;have c:bO p p.R[k] i=p.S[j]:=E.symm;have h2:=VK h j hj hj e (by rw[<-c];exact he);have h3:(bO p p.R[k] i).ends[e]=p.S[j].ends[e]'(by rw[<-c];exact he):=by simp[c]
  rw[h3]at h0 ⊢;rcases h2 with h2 | ⟨_,t,r,h4,_⟩
  ·exact h2.2
  obtain⟨m,f,e⟩:=No r;have h5:=(zR h m f f).1.1;rw[e]at h5;omega
 have h1:=(b.2.1 hx).1;have h2:=qK (z:=mI) h1;constructor
 ·intro h3;obtain⟨x,d,q,Q,q3⟩:=IV hx h3;have:x=iZ p p.R[k].X:=z11 (zC h) d h2.1 (by rw[q3];exact h2.2.symm);rw[<-this];exact⟨q.symm,Q.symm⟩
 rintro⟨q,Q⟩;rw[VI h h2.1 q.symm Q.symm];exact h2.2
def mH (p:Pl) (r:Rt) (w:Rw):aq dV:=lP p r w.ins w.outs (aI r).length++r.fl.map fun f=>⟨f.pt,f.lie,-1⟩
def VH {p:Pl}(H:dE Pt.id p.P p.P) (hF:sJ p.P r.fl r.fl) (k:Wk): ∀i,i<=r.fl.length->(gO k r.fl i).asks=k.asks++(r.fl.take i).map fun f=>⟨f.pt,f.lie,-1⟩
 | 0,_=>by simp[gO]
 | i+1,hi=>by
  have hn:i<r.fl.length:=ed
  have a:r.fl.getD i ⟨0,0⟩=r.fl[i]:=Ek
  have h1:=hF i hn hn;have h2:=qK (z:=(⟨0,0⟩:Pt)) h1.1;obtain⟨j,hj,e⟩:=No h2.1;have h3:=(H j hj hj).1;have h4:p.P[j].id=r.fl[i].pt:=by rw[e];exact h2.2
  rw[gO,a];unfold kB;rw[Np ⟨ed,by rcases h1.2.2 with q | q<;>omega⟩];simp only;rw[VH H hF k i ed,Dc hn,Pr,Dk];rfl
def IU {p:Pl}(h:bX p){k:av}(a:k<p.R.length){w:Rw}(b:iM p p.R[k]=bt w):(cP p p.R[k]).asks=mH p p.R[k] w:=by
 have h1:=CV (wO h a) (aI p.R[k]).length ep;have H:iL p p.R[k] (aI p.R[k]).length=bt w:=b;rw[H]at h1;show(gO (kE p p.R[k]) p.R[k].fl p.R[k].fl.length).asks=_;rw[VH (IX h) (qD h a).2.2 _ _ ep,Ph];show(eM p p.R[k] (aI p.R[k]).length).asks++_=_;rw[h1];rfl
def VG {p:Pl}(h:bX p){k:av}(H:k<p.R.length):(kE p p.R[k]).lost=aW↔(iM p p.R[k]).isSome=bl:=by
 have h1:=CV (wO h H) (aI p.R[k]).length ep;unfold kE iM;cases hr:iL p p.R[k] (aI p.R[k]).length with
 | none=>rw[hr]at h1;rw[h1];simp
 | some w=>rw[hr]at h1;rw[h1];simp[fL]
def z14 {p:Pl}(h:bX p){k:av}(a:k<p.R.length){w:Rw}(b:iM p p.R[k]=bt w):gK p p.R[k]=oA p.R[k] w.outs (aI p.R[k]).length:=by
 have h1:=CV (wO h a) (aI p.R[k]).length ep;have H:iL p p.R[k] (aI p.R[k]).length=bt w:=b;rw[H]at h1;unfold gK kE;rw[h1];rfl
def VF {p:Pl}(b:rP p r): ∀i w,iL p r i=bt w-> ∀j,j<i->j<r.A.length->0<=w.outs.getD j 0/\(j+1=r.A.length->r.X≠0->fF p ((aI r).getD j 0) (w.outs.getD j 0)=r.X)
 | 0,w,h,j,hj,_=>ed
 | i+1,w,h,j,hj,hp=>by
  have c:=oY r;rw[iL]at h;cases hq:iL p r i with
  | none=>rw[hq]at h;cases h
  | some v=>
   rw[hq]at h;have h:qE p r i v=bt w:=h;obtain⟨l1,l2⟩:=CX p r i v hq;have I:=VF b i v hq;have old: ∀o:ar,j<i->(v.outs++[o]).getD j 0=v.outs.getD j 0:=fun o H=>by refine jd ?_;rw[Pd ed]
   unfold qE at h;split at h
   ·cases h
   split at h
   ·rename_i f
    cases h;by_cases H:j<i
    ·show 0<=(v.outs++[-1]).getD j 0/\(j+1=r.A.length->r.X≠0->fF p ((aI r).getD j 0) ((v.outs++[-1]).getD j 0)=r.X);rw[old _ H];exact I j H hp
    omega
   split at h
   ·cases h
   rename_i e d
   cases h;by_cases H:j<i
   ·refine Rq ?_;rw[old _ H];exact I j H hp
   have a:j=i:=ed;subst a;have G:(v.outs++[(e:ar)]).getD j 0=(e:ar):=(by rw[<-l2];exact zT _ _);refine Rq ?_;rw[G];refine⟨Hy e,fun q1 q2=> ?_⟩;have hok:=Gn d;unfold kZ at hok;rw[Dt,Np q1,Dr,Dr]at hok;rcases hok.2 with q | q
   ·exact cv q.1 q2
   have:=(b.shaped j ed).2.2;rw[<-this];exact q.2
def XD (r:Rt) (outs:aq ar): ∀i,(∀j,j<i->0<=outs.getD j 0)->oA r outs i=(aq.range i).map fun j=>⟨(aI r).getD j 0,outs.getD j 0⟩
 | 0,_=>rfl
 | i+1,h=>by
  rw[oA,XD r outs i fun j hj=>h j ed,Np (h i ed),Hh,Pr];rfl
def XC (r:Rt) (outs:aq ar): ∀i d,∃m,oA r outs (i+d)=oA r outs i++m
 | i,0=>⟨[],ee⟩
 | i,d+1=>by
  obtain⟨m,H⟩:=XC r outs i d;exact⟨m++(if 0<=outs.getD (i+d) 0 then [⟨(aI r).getD (i+d) 0,outs.getD (i+d) 0⟩]else []),by rw[<-Tz,oA,H,Dk]⟩
def sV (p:Pl) (r:Rt) (outs:aq ar):Prop:= ∀i,i<r.A.length-> ¬(fF p (r.A.getD i 0) (outs.getD i 0)≠0/\i+1<r.A.length)/\ ¬(i+1=r.A.length/\fF p (r.A.getD i 0) (outs.getD i 0)≠r.X)
instance (p:Pl) (r:Rt) (outs:aq ar):cG (sV p r outs):=by unfold sV;exact cx
def XB {p:Pl}(h:bX p){k:av}(o:k<p.R.length){w:Rw}(r:iM p p.R[k]=bt w):oC p p.R[k] (gK p p.R[k])↔sV p p.R[k] w.outs:=by
 have c:=oY p.R[k];have y:=wO h o;have u:=VF y _ w r
 have H: ∃m,gK p p.R[k]=((aq.range p.R[k].A.length).map fun j=>(⟨(aI p.R[k]).getD j 0,w.outs.getD j 0⟩:Jn))++m:=by
  obtain⟨m,hR⟩:=XC p.R[k] w.outs p.R[k].A.length p.R[k].O.length;refine⟨m,?_⟩;rw[z14 h o r,c,hR,XD _ _ _ fun j hj=>(u j ed hj).1]
 obtain⟨m,hR⟩:=H;have v:p.R[k].A.length<=(gK p p.R[k]).length:=Eg
 have b: ∀i (hi:i<p.R[k].A.length),(gK p p.R[k])[i]' ed=⟨p.R[k].A.getD i 0,w.outs.getD i 0⟩:=fun i hi=>by
  have e:(gK p p.R[k])[i]? =bt ⟨(aI p.R[k]).getD i 0,w.outs.getD i 0⟩:=by
   rw[hR,Pd Og];simp[hi]
  have a:(aI p.R[k]).getD i 0=p.R[k].A.getD i 0:=by
   unfold aI;refine jd ?_;rw[Pd hi]
  rw[Nf ed]at e;rw[<-a];exact Pq e
 have d: ∀i,i<p.R[k].A.length->p.R[k].A.getD i 0=(aI p.R[k]).getD i 0:=fun i hi=>by
  unfold aI;refine jd ?_;rw[Pd hi]
 unfold oC tH sV;constructor
 ·intro f i hi;have h1:=f i ed hi;rw[b i hi]at h1
  have h2: ∀x∈p.G,¬tB p.R[k] i ⟨p.R[k].A.getD i 0,w.outs.getD i 0⟩ x:=fun x hx=>by
   obtain⟨j,hj,rfl⟩:=No hx;exact h1 j hj hj
  constructor
  ·rintro⟨Q,q⟩;obtain⟨x,hx,e,a,E⟩:=IV Q rfl;exact h2 x hx ⟨e,a,.inl q⟩
  rintro⟨Q,q⟩;by_cases hx:p.R[k].X=0
  ·rw[hx]at q;obtain⟨x,n,e,a,E⟩:=IV q rfl;refine h2 x n ⟨e,a,.inr ?_⟩;rw[E,hx];exact q
  apply q;rw[d i hi];exact(u i ed hi).2 Q hx
 intro f i h1 hi j hj _;rw[b i hi];rintro⟨e,a,E⟩;have z:=VI h (Nn hj) e a;have h3:=(zC h j hj hj).1;obtain⟨C,c2⟩:=f i hi;rw[z]at C c2;rcases E with E | E
 ·exact C ⟨ed,E⟩
 by_cases hl:i+1<p.R[k].A.length
 ·exact C ⟨ed,hl⟩
 exact c2 ⟨ed,E⟩
def mO (p:Pl) (r:Rt):Prop:=match iM p r with | none=>False | some w=>nS (mH p r w)/\sV p r w.outs
instance (p:Pl) (r:Rt):cG (mO p r):=by unfold mO;split<;>exact cx
def uL (p:Pl):bS p↔bX p/\ ∀k (h:k<p.R.length),mO p p.R[k]:=by
 constructor
 ·rintro⟨h1,h2,h3⟩;refine⟨h1,fun k H=> ?_⟩;have h4:=(VG h1 H).1 (h2 k H H);obtain⟨w,c⟩:=ax.isSome_iff_exists.1 h4;have h5:=h3 k H H;unfold mO;rw[c];exact⟨by rw[<-IU h1 H c];exact h5.1,(XB h1 H c).1 h5.2⟩
 rintro⟨h1,h2⟩
 have key: ∀k (H:k<p.R.length),∃w,iM p p.R[k]=bt w/\nS (mH p p.R[k] w)/\sV p p.R[k] w.outs:=fun k H=>by
  have h3:=h2 k H;unfold mO at h3;cases hr:iM p p.R[k]with
  | none=>rw[hr]at h3;exact h3.elim
  | some w=>rw[hr]at h3;exact⟨w,rfl,h3⟩
 refine⟨h1,fun k H _=> ?_,fun k H _=> ?_⟩
 ·obtain⟨w,c,_⟩:=key k H;exact(VG h1 H).2 (by rw[c];rfl)
 obtain⟨w,c,a,b⟩:=key k H;exact⟨by rw[IU h1 H c];exact a,(XB h1 H c).2 b⟩
def iR (j:Jn):aq ar:=[j.tt,j.en]
def eX (s:aF):aq ar:=s.id::s.pt::s.ends.flatMap iR
def dN (x:Pt):aq ar:=[x.id,x.sec]
def fM (x:Sg):aq ar:=[x.id,x.sec,x.en]
def kC (x:Fl):aq ar:=[x.pt,x.lie]
def dJ (x:ar):aq ar:=[x]
def cE {α:Type}(f:α->aq ar) (l:aq α):aq ar:=(l:ar)::l.flatMap f
def fT (r:Rt):aq ar:=r.id::r.E::r.X::(cE dJ r.A++(cE dJ r.O++(cE kC r.fl++[r.T])))
def gJ (p:Pl):aq ar:=p.ver::p.par::(cE eX p.S++(cE dN p.P++(cE fM p.G++cE fT p.R)))
def bI (ns:aq ar):aq av:=ns.flatMap fun n=>cD n.toNat
def dP (p:Pl):aq av:=bI (gJ p)
def eO (n:ar):Prop:=0<=n/\n<=2147483647
def WV (r:Rt):Prop:=r.A.length<=99/\r.O.length<=99/\r.fl.length<=99
structure IT (p:Pl):Prop where
 num: ∀n∈gJ p,eO n
 S:p.S.length<=99
 shaped: ∀s∈p.S,s.Shaped
 P:p.P.length<=99
 G:p.G.length<=99
 R:p.R.length<=99
 few: ∀r∈p.R,WV r
def IS (l:aq ar):l.flatMap dJ=l:=by rw[show dJ=fun x=>[id x]from rfl,<-Td,aq.map_id]
def jK (h:0<=n/\n<=99):eO n:=⟨h.1,ed⟩
def z2i {s:aF}(h:s.Shaped):0<=s.pt/\s.pt<=99:=by rcases h with⟨h,-⟩ | ⟨h1,h2,-⟩<;>constructor<;>omega
def z2j {s:aF}(h:s.Shaped):s.ends.length<=3:=by rcases h with⟨-,h⟩ | ⟨-,-,h⟩<;>omega
def CQ {α:Type}{f:α->ar}{l:aq α}(h:dE f l l){x:α}(hx:x∈l):0<=f x/\f x<=99:=by
 obtain⟨i,H,rfl⟩:=No hx;have:=(h i H H).1;omega
def IR {α:Type}{f:α->ar}{l:aq α}(h:dE f l l)(H:dX f l n=bl):0<=n/\n<=99:=by
 cases l with
 | nil=>cases H
 | cons z l=>obtain⟨h1,h2⟩:=qK (z:=z) H;rw[<-h2];exact CQ h h1
def wN {p:Pl}(h:bX p):IT p:=by
 have c: ∀s∈p.S,(0<=s.id/\s.id<=99)/\s.Shaped:=fun s a=>by
  obtain⟨i,b,rfl⟩:=No a;have:=(zR h i b b).1;exact⟨⟨ed,this.2.1⟩,this.2.2⟩
 have d: ∀s∈p.S,∀j∈s.ends,(0<=j.tt/\j.tt<=99)/\0<=j.en/\j.en<=99:=fun s a j hj=>by
  obtain⟨i,b,rfl⟩:=No a;obtain⟨e,he,rfl⟩:=No hj;rcases VK h i b b e he with⟨h1,h2⟩ | ⟨-,t,G,h1,h2,h3⟩
  ·omega
  have h4:=(c t G).1;have h5:=z2j (c t G).2;have h6:=(aq.getElem?_eq_some_iff.1 h3).1;omega
 have q: ∀r∈p.R,iU (dQ p.S p.S) p.G p.P r:=fun r o=>by
  obtain⟨k,I,rfl⟩:=No o;exact qD h I
 have u: ∀r∈p.R,∀n∈r.A++r.O,0<=n/\n<=99:=fun r o n H=>by
  obtain⟨i,b,rfl⟩:=No H;have:=((q r o).2.1 i b b).1;exact⟨this.1,this.2.1⟩
 obtain⟨J,w,y,K,z⟩:=h.1;have L:=z.1;have M:=h.2.1.1.1.2;have O:=h.2.1.2.1.1.2;have P:=h.2.1.2.2.2;refine⟨fun n H=> ?_,ed,fun s a=>(c s a).2,ed,ed,ed,fun r o=> ?_⟩
 ·simp only[gJ,cE,Dv,Tx,Su]at H;rcases H with rfl | rfl | (rfl | ⟨s,a,H⟩) | (rfl | ⟨x,hx,H⟩) | (rfl | ⟨x,hx,H⟩) | rfl | ⟨r,o,H⟩
  ·exact⟨ed,w⟩
  ·exact⟨y,ed⟩
  ·exact jK ed
  ·simp only[eX,Dv,Su]at H;rcases H with rfl | rfl | ⟨j,hj,H⟩
   ·exact jK (c s a).1
   ·exact jK (z2i (c s a).2)
   simp only[iR,Dv,Pf,Ta]at H;rcases H with rfl | rfl
   ·exact jK (d s a j hj).1
   exact jK (d s a j hj).2
  ·exact jK ed
  ·simp only[dN,Dv,Pf,Ta]at H;rcases H with rfl | rfl
   ·exact jK (CQ (IX h) hx)
   obtain⟨i,b,rfl⟩:=No hx;obtain⟨s,a,h1,-⟩:=h.2.1.1.2.2 i b;rw[<-h1];exact jK (c s a).1
  ·exact jK ed
  ·simp only[fM,Dv,Pf,Ta]at H;obtain⟨i,b,rfl⟩:=No hx;have a:=(IY h i b b).1;have h3:=WI (zR h) (p.G[i].sec).toNat;rcases H with rfl | rfl | rfl
   ·exact jK (CQ (zC h) hx)
   ·exact jK ⟨a.1.1,a.1.2.1⟩
   exact jK ⟨a.2.1,by have:=a.2.2;omega⟩
  ·exact jK ed
  have v:=q r o;obtain⟨A,C,-,Q,D,E,F,R,T⟩:=v.1;simp only[fT,cE,IS,Dv,Tx,Su,Pf,Ta]at H;rcases H with rfl | rfl | rfl | (rfl | H) | (rfl | H) | (rfl | ⟨f,U,H⟩) | rfl
  ·exact jK (CQ (IW h) o)
  ·exact jK (IR (zC h) A)
  ·by_cases h0:r.X=0
   ·rw[h0];exact jK eh
   exact jK (IR (zC h) (C h0).1)
  ·exact jK ed
  ·exact jK (u r o n (Tx.2 (.inl H)))
  ·exact jK ed
  ·exact jK (u r o n (Tx.2 (.inr H)))
  ·exact jK ed
  ·obtain⟨i,b,rfl⟩:=No U;have h9:=v.2.2 i b b;simp only[kC,Dv,Pf,Ta]at H;rcases H with rfl | rfl
   ·exact jK (IR (IX h) h9.1)
   exact jK (by have:=h9.2.2;omega)
  exact jK ed
 have v:=(q r o).1;obtain⟨-,-,-,-,D,E,F,-⟩:=v;exact⟨ed,ed,ed⟩
open Go.RowKit Tryz
def pT (x:Tk):aq bw:=[jV x.id,cW .u8 x.is]
def pU (x:Sw):aq bw:=[jV x.id,jV x.lie,jV x.call]
def pW (x:Lk):aq bw:=[jV x.id,cW .u8 x.ph,jV x.gone,jV x.left]
def WP:(prog.info? 106).map (fun i=>(i.zero,i.size,i.bytes))=bt (bt (cZ #[jV 0,cW .u8 0]),2,16):=by kernel_rfl
def UQ:(prog.info? 108).map (fun i=>(i.zero,i.size,i.bytes))=bt (bt (cZ #[jV 0,jV 0,jV 0]),3,24):=by kernel_rfl
def UP:(prog.info? 99).map (fun i=>(i.zero,i.size,i.bytes))=bt (bt (cZ #[jV 0,cW .u8 0,jV 0,jV 0]),4,32):=by kernel_rfl
def tq (x:Tk): ∀u∈pT x,u.oneCell'=bl:=by
 intro u H;simp only[pT,Dv,Pf,Ta]at H;rcases H with rfl | rfl<;>rfl
def tp (x:Sw): ∀u∈pU x,u.oneCell'=bl:=by
 intro u H;simp only[pU,Dv,Pf,Ta]at H;rcases H with rfl | rfl | rfl<;>rfl
def th (x:Lk): ∀u∈pW x,u.oneCell'=bl:=by
 intro u H;simp only[pW,Dv,Pf,Ta]at H;rcases H with rfl | rfl | rfl | rfl<;>rfl
structure bH (W:aj) (N:av) (t s l:bw) (x:St):Prop where
 tks:W.ownsRow N 106 2 t x.tks (x.tks.flatMap pT)
 sws:W.ownsRow N 108 3 s x.sws (x.sws.flatMap pU)
 lks:W.ownsRow N 99 4 l x.lks (x.lks.flatMap pW)
section
variable {W W':aj}{N:av}{t s l:bw}{x:St}
def bH.stM (h:bH W N t s l x):fU W t s l x:=
 ⟨kK (f:=pT) h.tks (fun _ _=>rfl) (fun _ _=>rfl),kK (f:=pU) h.sws (fun _ _=>rfl) (fun _ _=>rfl),kK (f:=pW) h.lks (fun _ _=>rfl) (fun _ _=>rfl)⟩
def bH.below (h:bH W N t s l x) (H:jb W W'):bH W' N t s l x:=⟨bU h.tks H,bU h.sws H,bU h.lks H⟩
def bH.setCell (h:bH W N t s l x){a:bR}(H:a.block<N) (v:bw):bH (W.setCell a v) N t s l x:=⟨aV h.tks H v,aV h.sws H v,aV h.lks H v⟩
def bH.base (h:bH W N t s l x){n:av}(H:n<=N):bH W n t s l x:=⟨bW h.tks H,bW h.sws H,bW h.lks H⟩
def bH.nil (W:aj) (N:av):bH W N (jN) (jN) (jN) ⟨[],[],[]⟩:=⟨Nw _ _ _ _,Nw _ _ _ _,Nw _ _ _ _⟩
def bH.tk (h:bH W N t s l x) (y:Tk)(ho:W'.ownsRow N 106 2 T (x.tks.length+1) (x.tks.flatMap pT++pT y)) (H:W.grownBy W' t.ownBlock):bH W' N T s l ⟨x.tks++[y],x.sws,x.lks⟩:=
 ⟨Ye,h.sws.kept H (rT h.sws h.tks eh),h.lks.kept H (rT h.lks h.tks eh)⟩
def bH.sw (h:bH W N t s l x) (y:Sw){a:bw}(ho:W'.ownsRow N 108 3 a (x.sws.length+1) (x.sws.flatMap pU++pU y)) (H:W.grownBy W' s.ownBlock):bH W' N t a l ⟨x.tks,x.sws++[y],x.lks⟩:=
 ⟨h.tks.kept H (rT h.tks h.sws eh),Ye,h.lks.kept H (rT h.lks h.sws eh)⟩
def bH.lk (h:bH W N t s l x) (y:Lk){L:bw}(ho:W'.ownsRow N 99 4 L (x.lks.length+1) (x.lks.flatMap pW++pW y)) (H:W.grownBy W' l.ownBlock):bH W' N t s L ⟨x.tks,x.sws,x.lks++[y]⟩:=
 ⟨h.tks.kept H (rT h.tks h.lks eh),h.sws.kept H (rT h.sws h.lks eh),Ye⟩
end
structure yF (B:aj) (N bp g:av) (pc:aL bw) (t s l:bw) (x:St) (W:aj):Prop where
 bel:jb B W
 pl:jk W bp pc 28
 blk:jk W g #[t,s,l] 33
 own:bH W N t s l x
section
variable {B W W':aj}{N bp g:av}{pc:aL bw}{t s l:bw}{x:St}
def yF.below (h:yF B N bp g pc t s l x W) (H:jb W W'):yF B N bp g pc t s l x W':=
 ⟨jt h.bel H,(jm H h.pl),(jm H h.blk),h.own.below H⟩
def yF.grow (h:yF B N bp g pc t s l x W) (j:B.heap.size<=g) (p:bp<g) (b:g<N){n:av}{v:bw}{xs:aq bw}(d:W.ownsRow N e sz v n xs) (H:W.grownBy W' v.ownBlock){o:av}{u a L:bw}{X:St}(q:(#[t,s,l]:aL bw).setIfInBounds o u=#[T,a,L]) (r:bH W' N T a L X):yF B N bp g pc T a L X (W'.setCell ⟨g,o,bn⟩ u):=by
 have f: ∀k,k<N->bt k≠v.ownBlock:=fun k w e=>by
  obtain⟨c,_,i⟩:=fD d e.symm;omega
 have i:=h.bel.trans (dT d ed h.bel.size H);have htA:=(H.block _ (aD h.blk) (f g b)).trans h.blk;refine⟨i.setCell j _,(Ny _ _ _ bp (by show bp≠g;omega)).trans ((H.block _ (aD h.pl) (f bp ed)).trans h.pl),?_,r.setCell b u⟩;rw[<-q];exact Xp
end
def mq {α:Type}{w:aj}{R:aj->aq bw->α->Prop}{b:av}{l:aq α}{f:α->aq bw}(h:aB w sz R (bt ⟨b,off,bn⟩) cap l) (d: ∀x∈l,(f x).length=sz) (i: ∀v x,R w v x->v=f x) (hz:0<sz):
  ∀j u,(l.flatMap f)[j]? =bt u->jc w b (off+j) u:=by
 intro j u hj;have H:=pC f sz l d;have hjl:j<l.length * sz:=by rw[<-H];exact(aq.getElem?_eq_some_iff.1 hj).1
 refine Ya fun g hr a=>?_;rw[<-a,rB f sz l (j / sz) (j % sz) g d hr]at hj;obtain⟨B,o,v,e,hl,k,c⟩:=h.at_ (j / sz) g;cases e;obtain rfl:=i v _ c;have h1:=k (j % sz) Up;rw[Nf Up]at hj;rw[show off+j=off+j / sz * sz+j % sz by rw[Tz,a],h1];exact hj
def yct {α:Type}{C:α->aq bw}{P:bw->Prop}(l:aq α) (h1: ∀x,∀u∈C x,P u): ∀u∈l.flatMap C,P u:=fun u H=>by
 obtain⟨x,-,hx⟩:=Su.1 H;exact h1 x u hx
def ycu {B:av}{e:bT}{n:av}{v:bw}{xs:aq bw}(h:W.ownsRow B e sz v (0+n) ([]++xs)):W.ownsRow B e sz v n xs:=by rw[Pa]at h;exact h
def ycv {w:aj}{b:av}{n:aq bw}(HR: ∀j u,n[j]? =bt u->jc w b (off+j) u): ∀j u,n[j]? =bt u->(w.alloc o).cell? ((⟨b,off,bn⟩:bR).add j)=bt u:=fun j u hj=>by
 rw[Fn];exact(((Nb w w).alloc ep _).cell (p:=⟨b,off+j,bn⟩) Xx).trans (HR j u hj)
def ycw {w:aj}(H:(w.alloc o).grownBy W (bt w)):jb w W:=((Nb _ w).alloc ep _).grown H ee Xn
def rI (M:av) (f:FuncId) (e:bT) (sz:av){α:Type}(R:aj->aq bw->α->Prop) (C:α->aq bw):Prop:= ∀(a:ax bR) (cap:av) (l:aq α) (w:aj),aB w sz R a cap l->l.length<=M->
 jW f #[js a l cap] w fun en w'=> ∃v,en=cL v/\w'.ownsRow w e sz v l (l.flatMap C)/\jb w w'
def tS {M:av}{f:FuncId}{t e:bT}{by_:av}{z:bw}{α:Type}{R:aj->aq bw->α->Prop}{C:α->aq bw}(hu:prog.underlying t=bt (.slice e)) (hinfo:(prog.info? e).map (fun i=>(i.zero,i.size,i.bytes))=bt (bt z,sz,by_))
  (hR: ∀w vs x,R w vs x->vs=C x) (hC: ∀x,(C x).length=sz) (h1: ∀x,∀u∈C x,u.oneCell'=bl) (hz:0<sz)
  (s:prog.underlying t=bt (.slice e)->(prog.info? e).map (fun i=>(i.zero,i.size,i.bytes))=bt (bt z,sz,by_)->(∀w vs x,R w vs x->vs=C x)->(∀x,(C x).length=sz)->(∀x,∀u∈C x,u.oneCell'=bl)->0<sz->rI M f e sz R C:=by
   intro hu hinfo hR hC h1 hz a cap l w hl hm;have q:=fun(w:aj) (a:ax bR) (n c n' c':av)=>Go.Lib.run_eql_slice_nil (P:=prog) w _ _ a n c n' c' hu;obtain⟨i0,hi,hz0,hz1,hz2⟩:=info_parts hinfo;by_cases h0:l=[]
   ·subst h0;cases a
    all_goals ((first | go_in | go_in | go_in | go_in | go_in | go_in | go_in | go_in);go_wp2_with fail;go_ret;first | exact⟨_,rfl,aj.ownsRow_nil _ _ _ _,cB.refl _ _⟩ | exact⟨_,rfl,aj.ownsRow_made w #[] 0 (av.le_refl _) (av.zero_le _) (by simp),aR⟩)
   obtain⟨b,off,vs0,rfl,-⟩:=hl.at_ 0 (aq.length_pos_iff.2 h0);have HR:=hI (mq hl (fun x _=>hC x) (hR w) hz);have HN:=hI (pC _ _ l (fun x _=>hC x));have H1:=hI (yct l h1);generalize aq.flatMap _ _=news at *;have hlen:bG (0<l.length):=aq.length_pos_iff.2 h0;clear hl h0 hR hC h1 hinfo
   (first | go_in | go_in | go_in | go_in | go_in | go_in | go_in | go_in)
   go_wp2_with (at_builtin;refine wpList_append_own_at _ rfl _ _ _ rfl w _ i0 _ _ _ hu hi hz0 hz1 hz2 rfl (by decide) _ _ _ rfl (aj.ownsRow_made w #[] 0 (av.le_refl _) (av.zero_le _) (by simp)) ⟨b,off,bn⟩ l cap news rfl HN (ycv HR) H1 (by unfold maxLen;omega) (by omega) (by simp) ?_;intro v' w' hown hgr hnil hat);go_ret
   exact⟨_,rfl,ycu hown,ycw hgr⟩):rI M f e sz R C:=s hu hinfo hR hC h1 hz
def z2k:rI 1000 135 106 2 nX pT:=tS underlying29 WP (fun _ _ _ h=>h) (fun _=>rfl) (fun _=>by simp[pT,bw.oneCell']) eh
def z2l:rI 1000 136 108 3 mR pU:=tS underlying30 UQ (fun _ _ _ h=>h) (fun _=>rfl) (fun _=>by simp[pU,bw.oneCell']) eh
def z2m:rI 1000 137 99 4 mS pW:=tS underlying31 UP (fun _ _ _ h=>h) (fun _=>rfl) (fun _=>by simp[pW,bw.oneCell']) eh
structure RT (B:av) (w0:aj) (st:St) (gx gr:av) (v0 v1 v2:bw) (f0 f1 f2 f3 f4 f5 f6 f7 f8 f9 f10:aU) (s0 s1 s2 s3 s4 s5 s6 s7 s8 s9:bw) (W:aj):Prop where
 bel:cB B w0 W
 hl:gr+1<=W.heap.size
 hx:jk W gx #[v0,v1,v2] 33
 hz:f10=aW->jk W gr #[jN,jN,jN] 33
 h0:f0=bl->s0=cY (bt ⟨gx,0,bn⟩)
 h1:f1=bl->s1=v0
 h2:f2=bl-> ∃a c,s2=cJ a st.tks c/\W.ownsRow (gr+1) 106 2 (js a st.tks c) st.tks (st.tks.flatMap pT)
 h3:f3=bl->s3=cY (bt ⟨gx,1,bn⟩)
 h4:f4=bl->s4=v1
 h5:f5=bl-> ∃a c,s5=cJ a st.sws c/\W.ownsRow (gr+1) 108 3 (js a st.sws c) st.sws (st.sws.flatMap pU)
 h6:f6=bl->s6=cY (bt ⟨gx,2,bn⟩)
 h7:f7=bl->s7=v2
 h8:f8=bl-> ∃a c,s8=cJ a st.lks c/\W.ownsRow (gr+1) 99 4 (js a st.lks c) st.lks (st.lks.flatMap pW)
 h9:f9=bl-> ∃a1 c1 a2 c2 a3 c3,s9=cZ #[js a1 st.tks c1,js a2 st.sws c2,js a3 st.lks c3]/\bH W (gr+1) (js a1 st.tks c1) (js a2 st.sws c2) (js a3 st.lks c3) st
 h10:f10=bl-> ∃a1 c1 a2 c2 a3 c3,jk W gr #[js a1 st.tks c1,js a2 st.sws c2,js a3 st.lks c3] 33/\bH W (gr+1) (js a1 st.tks c1) (js a2 st.sws c2) (js a3 st.lks c3) st
def RT.below {B:av}{w0:aj}{st:St}{G gr:av}{v0 v1 v2:bw}{f0 f1 f2 f3 f4 f5 f6 f7 f8 f9 f10:aU}{s0 s1 s2 s3 s4 s5 s6 s7 s8 s9:bw}{W':aj}(h:RT B w0 st G gr v0 v1 v2 f0 f1 f2 f3 f4 f5 f6 f7 f8 f9 f10 s0 s1 s2 s3 s4 s5 s6 s7 s8 s9 W) (H:jb W W') (j:B<=W.heap.size):RT B w0 st G gr v0 v1 v2 f0 f1 f2 f3 f4 f5 f6 f7 f8 f9 f10 s0 s1 s2 s3 s4 s5 s6 s7 s8 s9 W':=
 {h with
  bel:=h.bel.trans (H.mono j)
  hl:=Nj h.hl H.size
  hx:=jm H h.hx
  hz:=fun k=>(H.block _ (aD (h.hz k))).trans (h.hz k)
  h2:=fun k=>by
   obtain⟨a,c,e,b⟩:=h.h2 k;exact⟨a,c,e,bU b H⟩
  h5:=fun k=>by
   obtain⟨a,c,e,b⟩:=h.h5 k;exact⟨a,c,e,bU b H⟩
  h8:=fun k=>by
   obtain⟨a,c,e,b⟩:=h.h8 k;exact⟨a,c,e,bU b H⟩
  h9:=fun k=>by
   obtain⟨A,C,d,f,g,i,e,b⟩:=h.h9 k;exact⟨A,C,d,f,g,i,e,b.below H⟩
  h10:=fun k=>by
   obtain⟨A,C,d,f,g,i,e,b⟩:=h.h10 k
   exact⟨A,C,d,f,g,i,(jm H e),b.below H⟩}
theorem z2n (st:St) (t sw lk:bw) (w:aj) (E:fU w t sw lk st) (M:st.fit):
  jW 67 #[cZ #[t,sw,lk]] w fun e d=> ∃A C q r u x,e=cL (cZ #[js A st.tks C,js q st.sws r,js u st.lks x])/\bH d w (js A st.tks C) (js q st.sws r) (js u st.lks x) st/\jb w d:=by
 have N:bG (∀W,jb w W->fU W t sw lk st):=fun W g=>E.below g;have O:=hI M;obtain⟨P,d1,rfl,-⟩:=E.tks;obtain⟨Q,d2,rfl,-⟩:=E.sws;obtain⟨R,T,rfl,-⟩:=E.lks
 have U:bG (∀W,jb w W->jW 135 #[js P st.tks d1] W fun e d=> ∃v,e=cL v/\d.ownsRow W 106 2 v st.tks (st.tks.flatMap pT)/\jb W d):=fun W g=>by
  obtain⟨a,c,e,h⟩:=(N W g).tks;cases e;exact z2k _ _ _ W h O.1
 have V:bG (∀W,jb w W->jW 136 #[js Q st.sws d2] W fun e d=> ∃v,e=cL v/\d.ownsRow W 108 3 v st.sws (st.sws.flatMap pU)/\jb W d):=fun W g=>by
  obtain⟨a,c,e,h⟩:=(N W g).sws;cases e;exact z2l _ _ _ W h O.2.1
 have X:bG (∀W,jb w W->jW 137 #[js R st.lks T] W fun e d=> ∃v,e=cL v/\d.ownsRow W 99 4 v st.lks (st.lks.flatMap pW)/\jb W d):=fun W g=>by
  obtain⟨a,c,e,h⟩:=(N W g).lks;cases e;exact z2m _ _ _ W h O.2.2
 go_in;go_upto_region 1 with fail;generalize n:cj _ _=W0;have K:=hI (eN n)
 have Y:=hI (jB n)
 have z:=hI (jC n)
 refine tN ef ef (fun f a y=> ∃F G I J s7 L s9 s s11 l:bw,a={tmps:=#[cZ #[js P st.tks d1,js Q st.sws d2,js R st.lks T],jp w 0,jp (w+1) 0,F,G,I,J,s7,L,s9,s,s11,l],defers:=[]}/\RT w w st w (w+1) (js P st.tks d1) (js Q st.sws d2) (js R st.lks T) (f 0) (f 1) (f 2) (f 3) (f 4) (f 5) (f 6) (f 7) (f 8) (f 9) (f 10) F G I J s7 L s9 s s11 l y) ?_ ?_ ?_
 ·exact⟨_,_,_,_,_,_,_,_,_,_,rfl,{bel:=⟨K.os,K.tape,K.output,K.size,K.block⟩,hl:=aD z,hx:=Y,hz:=fun _=>z,h0:=by simp,h1:=by simp,h2:=by simp,h3:=by simp,h4:=by simp,h5:=by simp,h6:=by simp,h7:=by simp,h8:=by simp,h9:=by simp,h10:=by simp}⟩
 ·intro i o b f a y p hd Z;obtain⟨F,G,I,J,s7,L,s9,s,s11,l,rfl,hS⟩:=p;have a0:=hS.bel.size;rcases i with _ | _ | _ | _ | _ | _ | _ | _ | _ | _ | _ | i
  ·simp at b;subst b;simp[wpOp,go_sem];refine Vk ?_;exact Xz
  ·simp at b;subst b;obtain rfl:=hS.h0 (hd ⟨0,.data⟩ ee ev);have cc:=ji 0 hS.hx;refine Vo ?_;refine Vk ?_;exact {hS with h1:=fun _=>rfl}
  ·simp at b;subst b;obtain rfl:=hS.h1 (hd ⟨1,.data⟩ ee ev);have B:=U y hS.bel;have j:=hS.hl;simp[wpOp,go_sem];refine .inl (B.mono ?_);rintro e d ⟨v,rfl,H,g⟩;obtain⟨a1,a2,rfl⟩:=rR H;simp[go_sem];exact⟨_,_,_,_,_,_,_,_,_,_,⟨rfl,rfl,rfl,rfl,rfl,rfl,rfl,rfl,rfl,rfl⟩,{RT.below hS g a0 with h2:=fun _=>⟨_,_,rfl,bW H j⟩}⟩
  ·simp at b;subst b;simp[wpOp,go_sem];refine Vk ?_;exact {hS with h3:=fun _=>rfl}
  ·simp at b;subst b;obtain rfl:=hS.h3 (hd ⟨3,.data⟩ ee ev);have cc:=ji 1 hS.hx;refine Vo ?_;refine Vk ?_;exact {hS with h4:=fun _=>rfl}
  ·simp at b;subst b;obtain rfl:=hS.h4 (hd ⟨4,.data⟩ ee ev);have B:=V y hS.bel;have j:=hS.hl;simp[wpOp,go_sem];refine .inl (B.mono ?_);rintro e d ⟨v,rfl,H,g⟩;obtain⟨a1,a2,rfl⟩:=rR H;simp[go_sem];exact⟨_,_,_,_,_,_,_,_,_,_,⟨rfl,rfl,rfl,rfl,rfl,rfl,rfl,rfl,rfl,rfl⟩,{RT.below hS g a0 with h5:=fun _=>⟨_,_,rfl,bW H j⟩}⟩
  ·simp at b;subst b;simp[wpOp,go_sem];refine Vk ?_;exact XR
  ·simp at b;subst b;obtain rfl:=hS.h6 (hd ⟨6,.data⟩ ee ev);have cc:=ji 2 hS.hx;refine Vo ?_;refine Vk ?_;exact {hS with h7:=fun _=>rfl}
  ·simp at b;subst b;obtain rfl:=hS.h7 (hd ⟨7,.data⟩ ee ev);have B:=X y hS.bel;have j:=hS.hl;simp[wpOp,go_sem];refine .inl (B.mono ?_);rintro e d ⟨v,rfl,H,g⟩;obtain⟨a1,a2,rfl⟩:=rR H;simp[go_sem];exact⟨_,_,_,_,_,_,_,_,_,_,⟨rfl,rfl,rfl,rfl,rfl,rfl,rfl,rfl,rfl,rfl⟩,{RT.below hS g a0 with h8:=fun _=>⟨_,_,rfl,bW H j⟩}⟩
  ·simp at b;subst b;obtain⟨A,C,rfl,o1⟩:=hS.h2 (hd ⟨2,.data⟩ ee ev);obtain⟨q,r,rfl,o2⟩:=hS.h5 (hd ⟨5,.data⟩ ee ev);obtain⟨u,x,rfl,o3⟩:=hS.h8 (hd ⟨8,.data⟩ ee ev);simp[wpOp,go_sem];refine Vk ?_;exact {hS with h9:=fun _=>⟨_,_,_,_,_,_,rfl,o1,o2,o3⟩}
  ·simp at b;subst b;obtain⟨A,C,q,r,u,x,rfl,H⟩:=hS.h9 (hd ⟨9,.data⟩ ee ev);have hz:=hS.hz Z;have a3:=jZ hz
   obtain⟨c0,c1,c2⟩:=fO hz;have a7:=aD hz;have hl:(w.heap.size+1)<w.heap.size+1+1:=Nx _;simp[wpOp,go_sem,a3,c0,c1,c2];refine Vk ?_;refine {hS with bel:=((hS.bel.setCell ee _).setCell ee _).setCell ee _,hl:=Zt,hx:=(by simp[cd,Nk,hS.hx]),hz:=Vy,h2:=(fun k=>by obtain⟨a,c,e,b⟩:=hS.h2 k;exact⟨a,c,e,aV (aV (aV b hl _) hl _) hl _⟩),h5:=(fun k=>by obtain⟨a,c,e,b⟩:=hS.h5 k;exact⟨a,c,e,aV (aV (aV b hl _) hl _) hl _⟩),h8:=(fun k=>by obtain⟨a,c,e,b⟩:=hS.h8 k;exact⟨a,c,e,aV (aV (aV b hl _) hl _) hl _⟩),h9:=(fun k=>⟨_,_,_,_,_,_,rfl,((H.setCell hl _).setCell hl _).setCell hl _⟩),h10:=(fun _=>⟨_,_,_,_,_,_,by simp[cd,Nk,hz],((H.setCell hl _).setCell hl _).setCell hl _⟩)}
  simp at b
 intro f a y p D;obtain⟨F,G,I,J,s7,L,s9,s,s11,l,rfl,hS⟩:=p;obtain⟨A,C,q,r,u,x,a4,H⟩:=hS.h10 (D 10 eh);have a5:=hI hS.bel;have a6:=hI H;obtain⟨r0,r1,r2⟩:=fO a4;go_wp2_with fail;exact Nh (v:=cZ #[js A st.tks C,js q st.sws r,js u st.lks x]) (by simp[results,Tryz.f67,go_sem,r0,r1,r2]) rfl ⟨_,_,_,_,_,_,rfl,a6.base ed,a5⟩
def oO (x:Pt):aq bw:=[jV x.id,jV x.sec]
def oM (x:Sg):aq bw:=[jV x.id,jV x.sec,jV x.en]
def dR (x:ar):aq bw:=[cW .u8 x]
def dG (w:aj) (vs:aq bw) (x:ar):Prop:=vs=[cW .u8 x]
def fS:nQ dG:=fun _ _ _ _ _ h=>h
def CO:(prog.info? 143).map (fun i=>(i.zero,i.size,i.bytes))=bt (bt (cZ #[jV 0,jV 0]),2,16):=by kernel_rfl
def CN:(prog.info? 145).map (fun i=>(i.zero,i.size,i.bytes))=bt (bt (cZ #[jV 0,jV 0,jV 0]),3,24):=by kernel_rfl
def nD:(prog.info? 5).map (fun i=>(i.zero,i.size,i.bytes))=bt (bt (cW .u8 0),1,1):=by kernel_rfl
def CM:(prog.info? 80).map (fun i=>(i.zero,i.size,i.bytes))=bt (bt (cZ #[jV 0,jV 0,jN]),3,40):=by kernel_rfl
def CJ:(prog.info? 102).map (fun i=>(i.zero,i.size,i.bytes))=bt (bt (cZ #[jV 0,jV 0,jV 0,jN,jN,jN,jV 0]),7,104):=by kernel_rfl
def IQ (x:Pt): ∀u∈oO x,u.oneCell'=bl:=uR _ _
def IP (x:Sg): ∀u∈oM x,u.oneCell'=bl:=uN _ _ _
def UO (x:Jn): ∀u∈nG x,u.oneCell'=bl:=uR _ _
def yW (x:ar): ∀u∈dR x,u.oneCell'=bl:=by intro u H;simp[dR]at H;subst H;rfl
def z2o:rI 1000 123 143 2 iA oO:=tS underlying24 CO (fun _ _ _ h=>h) (fun _=>rfl) IQ eh
def z2p:rI 1000 124 145 3 gZ oM:=tS underlying25 CN (fun _ _ _ h=>h) (fun _=>rfl) IP eh
def z2q:rI 8796093022208 127 133 2 fI nG:=tS underlying78 AB (fun _ _ _ h=>h) (fun _=>rfl) UO eh
def UN:rI 10000 60 5 1 dG dR:=tS underlying22 nD (fun _ _ _ h=>h) (fun _=>rfl) yW eh
def UM {α:Type}{w:aj}{R:aj->aq bw->α->Prop}{a:ax bR}{l:aq α}(h:aB w sz R a cap l) (hz:0<sz): ∃xss:aq (aq bw),xss.length=l.length/\(∀x∈xss,x.length=sz)/\(∀i (h:i<xss.length) (h':i<l.length),R w xss[i] l[i])/\ ∀b off,a=bt ⟨b,off,bn⟩-> ∀j u,(xss.flatMap id)[j]? =bt u->jc w b (off+j) u:=by
 have key: ∀i (hi:i<l.length),∃v:aq bw,v.length=sz/\R w v l[i]/\ ∀b off,a=bt ⟨b,off,bn⟩-> ∀j (hj:j<v.length),jc w b (off+i * sz+j) v[j]:=fun i hi=>by
  obtain⟨b,off,v,e,k,p,d⟩:=h.at_ i hi;refine⟨v,k,d,fun B O E j hj=> ?_⟩;rw[e]at E;cases E;exact p j hj
 obtain⟨f,g⟩: ∃f:av->aq bw,∀i (hi:i<l.length),(f i).length=sz/\R w (f i) l[i]/\ ∀b off,a=bt ⟨b,off,bn⟩-> ∀j (hj:j<(f i).length),jc w b (off+i * sz+j) (f i)[j]:=
  ⟨fun i=>if hi:i<l.length then Classical.choose (key i hi)else [],fun i hi=>by simp only[dif_pos hi];exact Classical.choose_spec (key i hi)⟩
 have H: ∀x∈(aq.range l).map f,x.length=sz:=fun x hx=>by
  obtain⟨i,hi,rfl⟩:=aq.mem_map.1 hx;exact(g i (aq.mem_range.1 hi)).1
 refine⟨(aq.range l).map f,ee,H,fun i h1 h2=>by simp only[Gg,aq.getElem_range];exact(g i h2).2.1,fun b off e j u hj=> ?_⟩;have n:=pC id sz _ H
 have hjl:j<l.length * sz:=by
  have:=(aq.getElem?_eq_some_iff.1 hj).1;rw[n]at this
  simpa using this
 refine Ya fun hi d c=>?_;have o:j / sz<((aq.range l).map f).length:=Og
 have h1:=rB id sz _ (j / sz) (j % sz) o H d;rw[c,hj]at h1;have h2:(j % sz)<(f (j / sz)).length:=by rw[(g _ hi).1];exact d
 have h3:=(g _ hi).2.2 b off e (j % sz) h2;simp only[id,Gg,aq.getElem_range]at h1;rw[Nf h2]at h1;rw[show off+j=off+j / sz * sz+j % sz by rw[Tz,c],h3,h1]
def z2r (a:ax bR) (cap:av) (l:aq aF) (w0 w:aj) (hl:aB w 3 (fun _=>cU w0) a cap l) (P:l.length<=1000):
  jW 125 #[js a l cap] w fun e r=> ∃(v:bw) (xss:aq (aq bw)),e=cL v/\r.ownsRow w 80 3 v xss (xss.flatMap id)/\xss.length=l.length/\(∀x∈xss,x.length=3)/\(∀i (h:i<xss.length) (h':i<l.length),cU w0 xss[i] l[i])/\jb w r:=by
 have q:=fun w a n c F G=>Go.Lib.run_eql_slice_nil w _ _ a n c F G underlying23;obtain⟨i0,s,t,y,z⟩:=Se CM;cases a with
 | none=>
  have h0:l=[]:=by
   cases l with
   | nil=>rfl
   | cons c l=>obtain⟨b,off,Q,e,_⟩:=hl.at_ 0 ee;cases e
  subst h0;go_in;refine ei ?_;exact Rk
 | some ad=>
  by_cases h0:l=[]
  ·subst h0;go_in;refine ei ?_;exact⟨_,[],rfl,Si w #[] 0 ep (Pe _) ee,rfl,fun x h=>by simp at h,fun i h=>by simp at h,aR⟩
  refine Ey fun b off _ e=>?_;cases e;obtain⟨xss,H,f,g,A⟩:=UM hl eh;have HR:=hI (A b off rfl);have I:bG ((xss.flatMap id).length=l.length * 3):=by show _=_;rw[pC id 3 xss f,H]
  have H1:bG (∀u∈xss.flatMap id,u.oneCell'=bl):=by
   intro u J;obtain⟨x,B,hx⟩:=Su.1 J;obtain⟨i,s,rfl⟩:=No B;obtain⟨e,h3,h4⟩:=g i s (by rw[<-H];exact s);rw[h3]at hx;obtain⟨a9,c9,h9,-⟩:=h4;simp only[id,Dv,Pf,Ta]at hx;rcases hx with rfl | rfl | rfl
   ·rfl
   ·rfl
   rw[h9];rfl
  have K:bG (∀(v:bw) (W:aj),W.ownsRow w 80 3 v (0+l.length) ([]++xss.flatMap id)->W.ownsRow w 80 3 v xss (xss.flatMap id)):=fun v W h=>by rw[Pa,<-H]at h;exact h
  have C:bG (xss.length=l.length/\(∀x∈xss,x.length=3)/\(∀i (h:i<xss.length) (h':i<l.length),cU w0 xss[i] l[i])):=⟨H,f,g⟩;generalize hq:xss.flatMap id=N at *
  have L:bG (∀j u,N[j]? =bt u->(w.alloc (cO #[] 80)).cell? ((⟨b,off,bn⟩:bR).add j)=bt u):=fun j u hj=>by
   rw[Fn];exact(((Nb w w).alloc ep _).cell (p:=⟨b,off+j,bn⟩) Xx).trans (HR j u hj)
  have D:=hI (aq.length_pos_iff.2 h0);go_in;go_wp2_with (at_builtin;refine wpList_append_own_at _ rfl _ _ 23 rfl w 80 i0 (cZ #[jV 0,jV 0,jN]) 3 40 underlying23 s t y z rfl eh _ _ _ rfl (Si w #[] 0 ep (Pe _) ee) ⟨b,off,bn⟩ l cap N rfl I L H1 Oq ed ee ?_;intro v' r o d E M);have d:(w.alloc (cO #[] 80)).grownBy r (bt w):=d;go_ret;exact⟨_,xss,rfl,by rw[hq];exact K _ _ o,C.1,C.2.1,C.2.2,(((Nb _ w).alloc ep _).grown d ee Xn)⟩
def z2s (a:ax bR) (cap:av) (l:aq Rt) (w0 w:aj) (hl:aB w 7 (fun _=>fH w0) a cap l) (R:l.length<=1000):
  jW 126 #[js a l cap] w fun e t=> ∃(v:bw) (xss:aq (aq bw)),e=cL v/\t.ownsRow w 102 7 v xss (xss.flatMap id)/\xss.length=l.length/\(∀x∈xss,x.length=7)/\(∀i (h:i<xss.length) (h':i<l.length),fH w0 xss[i] l[i])/\jb w t:=by
 have q:=fun w a n c I J=>Go.Lib.run_eql_slice_nil w _ _ a n c I J underlying26;obtain⟨i0,y,z,A,B⟩:=Se CJ;cases a with
 | none=>
  have h0:l=[]:=by
   cases l with
   | nil=>rfl
   | cons c l=>obtain⟨b,off,T,e,_⟩:=hl.at_ 0 ee;cases e
  subst h0;go_in;refine ei ?_;exact Rk
 | some ad=>
  by_cases h0:l=[]
  ·subst h0;go_in;refine ei ?_;exact⟨_,[],rfl,Si w #[] 0 ep (Pe _) ee,rfl,fun x h=>by simp at h,fun i h=>by simp at h,aR⟩
  refine Ey fun b off _ e=>?_;cases e;obtain⟨xss,H,g,r,C⟩:=UM hl eh;have HR:=hI (C b off rfl);have K:bG ((xss.flatMap id).length=l.length * 7):=by show _=_;rw[pC id 7 xss g,H]
  have H1:bG (∀u∈xss.flatMap id,u.oneCell'=bl):=by
   intro u L;obtain⟨x,D,hx⟩:=Su.1 L;obtain⟨i,y,rfl⟩:=No D;obtain⟨p,o,f,h3,h4⟩:=r i y (by rw[<-H];exact y);rw[h3]at hx;obtain⟨a7,c7,h7,-⟩:=h4.A.at_;obtain⟨a8,c8,h8,-⟩:=h4.O.at_;obtain⟨a9,c9,h9,-⟩:=h4.fl;simp only[id,Dv,Pf,Ta]at hx;rcases hx with rfl | rfl | rfl | rfl | rfl | rfl | rfl
   ·rfl
   ·rfl
   ·rfl
   ·rw[h7];rfl
   ·rw[h8];rfl
   ·rw[h9];rfl
   rfl
  have M:bG (∀(v:bw) (W:aj),W.ownsRow w 102 7 v (0+l.length) ([]++xss.flatMap id)->W.ownsRow w 102 7 v xss (xss.flatMap id)):=fun v W h=>by rw[Pa,<-H]at h;exact h
  have E:bG (xss.length=l.length/\(∀x∈xss,x.length=7)/\(∀i (h:i<xss.length) (h':i<l.length),fH w0 xss[i] l[i])):=⟨H,g,r⟩;generalize hq:xss.flatMap id=N at *
  have O:bG (∀j u,N[j]? =bt u->(w.alloc (cO #[] 102)).cell? ((⟨b,off,bn⟩:bR).add j)=bt u):=fun j u hj=>by
   rw[Fn];exact(((Nb w w).alloc ep _).cell (p:=⟨b,off+j,bn⟩) Xx).trans (HR j u hj)
  have F:=hI (aq.length_pos_iff.2 h0);go_in;go_wp2_with (at_builtin;refine wpList_append_own_at _ rfl _ _ 26 rfl w 102 i0 (cZ #[jV 0,jV 0,jV 0,jN,jN,jN,jV 0]) 7 104 underlying26 y z A B rfl eh _ _ _ rfl (Si w #[] 0 ep (Pe _) ee) ⟨b,off,bn⟩ l cap N rfl K O H1 Oq ed ee ?_;intro v' t s d G P);have d:(w.alloc (cO #[] 102)).grownBy t (bt w):=d;go_ret;exact⟨_,xss,rfl,by rw[hq];exact M _ _ s,E.1,E.2.1,E.2.2,(((Nb _ w).alloc ep _).grown d ee Xn)⟩
section
open Go.RowKit Go.Shelf Tryz
attribute [local go_sem] Oper.semAt_some
def IN (N:av) (W:aj):av:=match W.cell? ⟨N,0,bn⟩with | some (cW _ v)=>v.toNat | _=>0
def UL {N:av}{m:av}(h:jc W N 0 (jV (m:ar))):IN N W=m:=by
 unfold IN;rw[h];simp
def UK (J:av->aj->Prop) (Jend:aj->Prop) (N n k:av) (e:Ending) (W':aj):Prop:=
 e=cL (db bl)/\jc W' N 0 (jV ((n / 128 ^ k:av):ar))/\W'.frozen? ⟨N,0,bn⟩=aW/\
  (128<=n / 128 ^ k->J (k+1) (W'.setCell ⟨N,0,bn⟩ (jV ((n / 128 ^ (k+1):av):ar))))/\(n / 128 ^ k<128->Jend W')
def z2t (m l N n:av) (y:n<=2147483647) (J:av->aj->Prop) (j:aj->Prop)
  (p: ∀k W,J k W->jc W N 0 (jV ((n / 128 ^ k:av):ar))/\
   YieldAt Fence.wide (m-1) prog l #[cW .u8 (((n / 128 ^ k:av):ar) % 128),db (ab (128<=n / 128 ^ k))] W (UK J j N n k))
  (W:aj) (h0:J 0 W):
  CallsIn Fence.wide m prog 409 #[.func (.yield l) #[] #[],jp N 0] W fun e W'=>(∃v,e=cL v)/\j W':=by
 refine callsIn_of_wp func409 rfl Py ?_ rfl;simp only[ntmps409,Gv,Du,Tl,av.reduceAdd,av.reduceSub,Gk,Gj,Gx,Gq,Dd,Nz]
 gi_wp2
 gi_loopw [3] (fun _ wr=> ∃k,J k wr) (fun _ wr=>IN N wr)
 case atStart=>exact⟨0,h0⟩
 case round=>
  obtain⟨k,r⟩:=hrel;obtain⟨s,F,tmps,assign,B,o,t⟩:=p k wr r;have z:n / 128 ^ k<=n:=Ik _ _;have hq:n / 128 ^ (k+1)=n / 128 ^ k / 128:=by rw[Hd,He]
  have u:=hI hq;have d:=s;have a:=hI t;unfold UK at a;generalize n / 128 ^ k=q at *;by_cases H:128<=q
  ·rw[Ni H]at o;have f:ab ((128:ar)<=(q:ar))=bl:=by simp;omega
   gi_wp2
   refine⟨fun h=>(nomatch h),a.mono ?_⟩;rintro e W3 ⟨rfl,b,g,i,-⟩;have w:=hI (i H)
   gi_wp2
   go_roundw
   case rel=>
    refine⟨k+1,?_⟩;have:=w.o;rw[u.o]at this;exact this
   case measure=>
    rw[UL d,show((q:ar) / 128)=((q / 128:av):ar)by omega,UL (m:=q / 128) (aj.cell?_setCell_same' _ _ _ (by rw[b];rfl))];omega
  rw[Mw H]at o;have f:ab ((128:ar)<=(q:ar))=aW:=by simp;omega
  gi_wp2
  refine⟨fun h=>(nomatch h),a.mono ?_⟩;rintro e W3 ⟨rfl,b,g,-,c⟩;have x:=hI (c ed)
  gi_wp2
  go_end0
  exact⟨⟨_,rfl⟩,x⟩
attribute [local go_sem] Oper.semAt_some
def eT (l:aq av):aq bw:=l.map (fun c:av=>bw.int .u8 (c:ar))
def IM (a b:aq av):eT (a++b)=eT a++eT b:=by unfold eT;exact Pr
def z2u (n:ar) (w:aj):
  jW 369 #[n] w fun e W=>e=cL (.func (.func 409) #[] #[jp w 0])/\w.alloc (cO #[n] 3)=W:=by
 go_in
 go_wp2
 go_ret;exact⟨rfl,rfl⟩
def IK (B:av) (A:aj->Prop) (W:aj):Exit->Act->aj->Prop
 | .normal,_,W'=>KeepsFrom B W W'/\A W'
 | _,_,_=>False
theorem z2v {Q:Exit->Act->aj->Prop}{a:Act}{w:aj}{g:Operand}{ps:aL Tmp}{assign body:Code}(N n:av) (Y:n<=2147483647) (a2:N<w.heap.size)
  (Z:a.eval g= .func (.func 409) #[] #[jp N 0]) (x:ps.size=2) (I A:av->aj->Prop)
  (y: ∀k W,I k W->jc W N 0 (jV ((n / 128 ^ k:av):ar)))
  (U: ∀k W,A k W->jc W N 0 (jV ((n / 128 ^ k:av):ar))/\W.frozen? ⟨N,0,bn⟩=aW)
  (c: ∀k W,A k W->128<=n / 128 ^ k->I (k+1) (W.setCell ⟨N,0,bn⟩ (jV ((n / 128 ^ (k+1):av):ar))))
  (z: ∀k W l o o',w.heap.size<=l->W.heap[l]? =bt o->o.isCells=aW->I k W->I k (W.putObj l o'))
  (j: ∀k W l o o',w.heap.size<=l->W.heap[l]? =bt o->o.isCells=aW->A k W->A k (W.putObj l o'))
  (h0: ∀o o',I 0 ((w.alloc o).alloc o')) (V:av->Act)
  (hassign: ∀(l k:av) (W:aj) (K:Act->aj->Prop),K (V k) W->
   assign.wpIn (Fence.wide.inRound l) 1 prog (Exit.then K (fun _ _ _=>False)) {tmps:=(ps.zip #[cW .u8 (((n / 128 ^ k:av):ar) % 128),db (ab (128<=n / 128 ^ k))]).foldl (fun t (p,v)=>t.setIfInBounds p v) a.tmps,defers:=[]} W)
  (d: ∀(l k:av) (W:aj),I k W->body.wpIn (Fence.wide.inRound l) 1 prog (IK w (A k) W) (V k) W)
  (f: ∀(D k:av) (W:aj),w.heap.size<=D->A k W->n / 128 ^ k<128->W.heap[D]? =bt (.deferred (bt []))->Q .normal {a with defers:={target:= .collected D,args:=#[]}::a.defers} W):
  (Code.rangeFunc g ps assign body).wpIn Fence.wide 3 prog Q a w:=by
 refine wpIn_rangeFunc ?_;intro fn hfn;have C:Fence.wide.round=bn:=rfl;rw[C];generalize E:w.heap.size=B at *;refine YV fun R hR b=>?_;rw[E]at b
 have F:((w.alloc (.deferred (bt []))).alloc (.loop (R .ready))).heap[B+1]? =bt (.loop (R .ready)):=by
  have:=aj.alloc_heap_new (w.alloc (.deferred (bt []))) (.loop (R .ready))
  rwa [Pv,E]at this
 have G:((w.alloc (.deferred (bt []))).alloc (.loop (R .ready))).heap[B]? =bt (.deferred (bt [])):=by
  refine(cB.heap_alloc _ _ _ em).trans ?_;have:=aj.alloc_heap_new w (.deferred (bt []))
  rwa [E]at this
 have hz:=h0 (.deferred (bt [])) (.loop (R .ready));generalize J:(w.alloc (.deferred (bt []))).alloc (.loop (R .ready))=u at *
 refine⟨B+1,[{target:= .collected B,args:=#[]}],u,{target:= .fn (.func 409) #[jp N 0],args:=#[.func (.yield (B+1)) #[] #[]]},u,409,
  #[.func (.yield (B+1)) #[] #[]]++#[cY (bt ⟨N,0,bn⟩)],u,?_,?_,fun _ _=>Py,?_,fun h=>(nomatch h),?_⟩
 ·rw[b,<-J,hR]
 ·simp only[resolve,Z];simp[go_sem]
 ·simp[invoke,go_sem]
 refine(z2t 2 (B+1) N n Y (fun k W=>I k W/\W.heap[B+1]? =bt (.loop (R .ready))/\W.heap[B]? =bt (.deferred (bt [])))
  (fun W=> ∃k,A k W/\n / 128 ^ k<128/\W.heap[B+1]? =bt (.loop (R .ready))/\W.heap[B]? =bt (.deferred (bt []))) ?_ u ⟨hz,F,G⟩).mono ?_
 ·rintro k W ⟨X,hl,hd⟩;refine⟨y k W X,?_⟩;have G9:=(aL.getElem?_eq_some_iff.1 hl).1;have hy:=run_yield (P:=prog) (args:=#[cW .u8 (((n / 128 ^ k:av):ar) % 128),db (ab (128<=n / 128 ^ k))]) hl (by rw[hR];exact x.symm);rw[hR]at hy;refine YK fun L=>?_;have M:(W.putObj (B+1) (.loop {R .ready with state:= .busy})).heap[B]? =bt (.deferred (bt [])):=(aj.putObj_heap_other ed).trans hd;refine wpIn_mono (d _ k _ (z k W _ _ _ ed hl rfl X)) ?_;rintro e a3 W3 i;cases e with
  | normal=>
   obtain⟨q,O⟩:=i;have hl3:=q.same _ _ ed L rfl;have T:=q.same _ _ ep M rfl;have he:=run_endRound (P:=prog) bn hl3;have H:=j k W3 _ _ (.loop (R .ready)) ed hl3 rfl O;refine Ma fun r=>?_;have s:(W3.putObj (B+1) (.loop (R .ready))).heap[B]? =bt (.deferred (bt [])):=(aj.putObj_heap_other ed).trans T;refine⟨db bl,W3.putObj (B+1) (.loop (R .ready)),by rw[he,hR];rfl,rfl,(U k _ H).1,(U k _ H).2,fun h=>⟨c k _ H h,?_,?_⟩,fun h=>⟨k,H,h,r,s⟩⟩
   ·rw[Ny _ _ _ _ em];exact r
   rw[Ny _ _ _ _ em];exact s
  | ret=>exact i.elim
  | exit id=>exact i.elim
  | goto t=>exact i.elim
  | panic a4=>exact i.elim
  | outgrown=>exact i.elim
 rintro e W2 ⟨⟨v,rfl⟩,k,a0,a1,hl,hd⟩;refine⟨bn,_,by have:=run_endLoop (P:=prog) hl Eg;rw[hR]at this;exact this,?_⟩;exact f B k _ ep (j k _ _ _ _ ed hl rfl a0) a1 ((aj.putObj_heap_other ed).trans hd)
def eZ (w:aj) (n j:av) (pre:aq av) (W:aj):Prop:=
 (∃v,Boxed W w 22 v/\W.ownsRow w 5 1 v pre (eT pre))/\Boxed W (w+1) 3 (jV ((n / 128 ^ j:av):ar))/\jb w W
def eZ.putObj {w:aj}{n j:av}(h:eZ w n j pre W){l:av}(o':Obj) (hl:w.heap.size+2<=l) (a:W.heap[l]? =bt o) (b:o.isCells=aW):eZ w n j pre (W.putObj l o'):=by
 obtain⟨⟨v,h1,h2⟩,h3,h4⟩:=h;have H:=grownBy_putObj' W l o';refine⟨⟨v,h1.kept H em,ownsRow_putObj h2 o' a b⟩,h3.kept H em,h4.grown H h4.size (fun k e=>by cases e;omega)⟩
def eZ.alloc {w:aj}{n j:av}(h:eZ w n j pre W) (o:Obj):eZ w n j pre (W.alloc o):=by
 obtain⟨⟨v,h1,h2⟩,h3,h4⟩:=h;exact⟨⟨v,h1.alloc o,h2.alloc o⟩,h3.alloc o,h4.alloc h4.size o⟩
def eZ.num {w:aj}{n j:av}(h:eZ w n j pre W) (J:av):eZ w n J pre (W.setCell ⟨w+1,0,bn⟩ (jV ((n / 128 ^ J:av):ar))):=by
 obtain⟨⟨v,h1,h2⟩,h3,h4⟩:=h;have H:=grownBy_setCell' W (w+1) (jV ((n / 128 ^ J:av):ar));exact⟨⟨v,h1.kept H ee,h2.kept H (.inr (h3.not_row eh h2).symm)⟩,h3.set _,h4.setCell ee _⟩
def z2w (w:aj) (n k:av) (W:aj):Prop:= ∃pre,pre++cD (n / 128 ^ k)=cD n/\eZ w n k pre W
def UJ (w:aj) (n k:av) (W:aj):Prop:= ∃pre,(128<=n / 128 ^ k->pre++cD (n / 128 ^ (k+1))=cD n)/\(n / 128 ^ k<128->pre=cD n)/\eZ w n k pre W
def z2x (q:av):bits .or .u8 ((q:ar) % 128) 128=(((128+q % 128:av)):ar):=by
 have h:q % 128<128:=av.mod_lt _ eh;rw[show((q:ar) % 128)=((q % 128:av):ar)by omega];generalize q % 128=m at *;have: ∀m:Fin 128,bits .or .u8 ((m.val:av):ar) 128=((128+m.val:av):ar):=by decide+kernel
 exact this ⟨m,h⟩
def UI (w:aj) (n:av) (e:Ending) (w':aj):Prop:=
 ∃v,e=cL (dw #[v,jV 0])/\w'.ownsRow w 5 1 v (cD n).length (eT (cD n))/\jb w w'
theorem z2y (n:av) (w:aj) (a4:n<=2147483647):CallsIn Fence.wide 3 prog 275 #[jV (n:ar)] w (UI w n):=by
 have h1:ab ((n:ar)<0)=aW:=ee
 have h2:ab ((2147483647:ar)<(n:ar))=aW:=em
 obtain⟨i0,Z,B,E,F⟩:=Se nD;have h5:(cD n).length<=5:=uP ed;refine callsIn_of_wp_marks func275 rfl Py ?_ rfl;simp only[ntmps275,Gv,Du,Tl,av.reduceAdd,av.reduceSub,Gk,Gj,Gx,Gq,Dd,Nz]
 gi_wp2_with fail
 refine⟨Py,(callsIn_wide.2 (z2u _ _)).mono ?_⟩;rintro e b2 ⟨rfl,rfl⟩
 gi_wp2_with fail
 have u:eZ w n 0 [] ((w.alloc (cO #[jN] 22)).alloc (cO #[jV (n:ar)] 3)):=by
  refine⟨⟨jN,(Boxed.new w 22 (jN)).alloc _,Nw _ _ _ _⟩,?_,((Nb _ w).alloc ep _).alloc ee _⟩;have:=Boxed.new (w.alloc (cO #[jN] 22)) 3 (jV (n:ar));rw[Pv]at this;rw[av.pow_zero,av.div_one];exact this
 refine z2v (w+1) n a4 ee rfl rfl (z2w w n) (UJ w n) (fun k W ⟨pre,_,t⟩=>t.2.1.cell) (fun k W ⟨pre,_,_,t⟩=>⟨t.2.1.cell,t.2.1.frozen⟩)
  (fun k W ⟨pre,j,_,t⟩ h=>⟨pre,j h,t.num (k+1)⟩)
  (fun k W l o o' hl M N ⟨pre,j,t⟩=>⟨pre,j,t.putObj o' (by simpa using hl) M N⟩)
  (fun k W l o o' hl M N ⟨pre,j,O,t⟩=>⟨pre,j,O,t.putObj o' (by simpa using hl) M N⟩)
  (fun o o'=>⟨[],ee,(u.alloc o).alloc o'⟩)
  (fun k=>{tmps:=#[n,bE,jN,jV 0,jp w 0,cW .u8 (((n / 128 ^ k:av):ar) % 128),db (ab (128<=n / 128 ^ k)),n,
   db aW,db aW,n,db aW,db aW,n,.func (.func 409) #[] #[jp (w+1) 0],cW .u8 (((n / 128 ^ k:av):ar) % 128),db (ab (128<=n / 128 ^ k)),
   bE,bE,bE,bE,bE,bE,bE,bE],defers:=[]}) ?assign ?body ?done
 case assign=>
  intro l k W K a5
  gi_wp2
  exact a5
 case body=>
  rintro l k W ⟨pre,j,⟨v,I,d⟩,i,f⟩
  have a0:pre.length<5:=by
   have:=Tc aq.length j;have h3:=tL (n / 128 ^ k);simp at this;omega
  have hq:n / 128 ^ (k+1)=n / 128 ^ k / 128:=by rw[Hd,He]
  obtain⟨q,x⟩: ∃q,n / 128 ^ k=q:=⟨_,rfl⟩;have a1:=hI x;rw[x]at j hq i ⊢;clear x;have a6:=I.cell;have b3:=I.frozen;have P:=f.size;have a2:=hI j;have a7:=hI hq;have Q:=z2x q;clear j hq
  have p: ∀(c:av) (w1:aj) (G C:av) (H:w1.ownsRow w 5 1 (jq G 0 (pre.length+1) C) (pre.length+1) (eT pre++[cW .u8 (c:ar)])) (b:(W.alloc (cO #[cW .u8 (c:ar)] 5)).grownBy w1 v.ownBlock),
    (128<=q->c=128+q % 128)->(q<128->c=q)->
    Boxed w1 w 22 v/\KeepsFrom (w+2) W (w1.setCell ⟨w,0,bn⟩ (jq G 0 (pre.length+1) C))/\(∀e,n / 128 ^ k=e->e=q->UJ w n k (w1.setCell ⟨w,0,bn⟩ (jq G 0 (pre.length+1) C))):=by
   intro c w1 G C H b y R;obtain⟨g,T,U,r,V⟩:=I.appended eh d P ep H b;refine⟨g,r.from _,fun e he z=>⟨pre++[c],?_,?_,⟨_,T,?_⟩,?_,f.trans V⟩⟩
   ·intro a;rw[he,z]at a;rw[<-a2.o,tM a,<-y a,Dk,a7.o];rfl
   ·intro a;rw[he,z]at a;rw[<-a2.o,qL a,R a]
   ·rw[IM,Mx];exact U
   rw[he,z];exact((i.alloc (cO #[cW .u8 (c:ar)] 5)).kept b ((i.alloc (cO #[cW .u8 (c:ar)] 5)).not_row eh (d.alloc (cO #[cW .u8 (c:ar)] 5)))).kept (grownBy_setCell' _ _ _) ee
  by_cases a:128<=q
  ·have X:=jT a;obtain⟨c,A⟩: ∃c,c=128+q % 128:=⟨_,rfl⟩;rw[<-A]at Q;have a8:=hI A;clear A
   gi_wp2_with (gi_at_builtin;refine wpListIn_append_own _ rfl _ _ 22 rfl w 5 i0 (cW .u8 0) 1 1 underlying22 Z B E F rfl eh _ _ _ rfl (d.alloc _) ⟨W,0,bn⟩ 1 1 [cW .u8 (c:ar)] rfl rfl (cell_one_new _ _ _) Qj Oq ed em ?_;intro v' w1 H b _;obtain⟨G,C,rfl⟩:=ownsRow_succ H;obtain⟨g,r,s⟩:=p c w1 G C H b (fun _=>a8) (fun h=>cv h ed);have y:=g.cell;have Y:=g.frozen)
   exact⟨by simp only[Pv];exact r,s _ rfl a1⟩
  have X:=jU a;have a3:(q:ar) % 128=(q:ar):=by omega
  gi_wp2_with (gi_at_builtin;refine wpListIn_append_own _ rfl _ _ 22 rfl w 5 i0 (cW .u8 0) 1 1 underlying22 Z B E F rfl eh _ _ _ rfl (d.alloc _) ⟨W,0,bn⟩ 1 1 [cW .u8 (q:ar)] rfl rfl (cell_one_new _ _ _) Qj Oq ed em ?_;intro v' w1 H b _;obtain⟨G,C,rfl⟩:=ownsRow_succ H;obtain⟨g,r,s⟩:=p q w1 G C H b (fun h=>cv h a) (fun _=>rfl);have y:=g.cell;have Y:=g.frozen)
  exact⟨by simp only[Pv];exact r,s _ rfl a1⟩
 case done=>
  intro D k W a9 b0 b1 J;obtain⟨pre,_,j,⟨v,I,d⟩,i,f⟩:=b0;have L:=j b1;subst L;have a6:=I.cell;simp only[Pv]at a9
  gi_wp2
  refine⟨ee,.inl ⟨_,_,rfl,run_takeDeferred J,?_⟩⟩;refine⟨_,results_tmp2 rfl _ _ _,v,rfl,ownsRow_putObj d _ J rfl,f.grown (grownBy_putObj' _ _ _) f.size (fun k e=>by cases e;omega)⟩
def z2z (n:av) (w:aj) (H:n<=2147483647):jW 275 #[jV (n:ar)] w (UI w n):=callsIn_wide.1 (z2y n w H)
end
def aO (l:aq ar):Prop:= ∀x∈l,0<=x/\x<=255
def UC: ∀ {l m:aq ar},aO l->aO m->l.map (fun n=>UInt8.ofNat n.toNat)=m.map (fun n=>UInt8.ofNat n.toNat)->l=m
 | [],[],_,_,_=>rfl
 | [],y::m,_,_,h=>by simp at h
 | x::l,[],_,_,h=>by simp at h
 | x::l,y::m,hl,hm,h=>by
  simp only[Hu,Il]at h;have hx:=hl x Dq;have H:=hm y Dq
  have e:x=y:=by
   have h1:=Tc UInt8.toNat h.1;simp only[UInt8.toNat_ofNat']at h1;omega
  rw[e,UC (fun z hz=>hl z (Dy _ hz)) (fun z hz=>hm z (Dy _ hz)) h.2]
def UB {l m:aq ar}(hl:aO l) (H:aO m):((Go.strOfNums l).toList==(Go.strOfNums m).toList)=ab (l=m):=by
 rw[Dh,Da,Dj];constructor
 ·intro h
  have h1: ∀xs:aq ar,(Go.strOfNums xs).toList=xs.map (fun n=>UInt8.ofNat n.toNat):=fun xs=>by
   rw[<-Go.strOfNums_data];exact Ia _
  rw[h1,h1]at h;exact UC hl H h
 rintro rfl;rfl
def z3o (w:aj) (p:ax bR) (c:av):(convert 22 9 (js p 0 c)).run prog w= .ok (.string ByteArray.empty) w:=by
 rw[Fs w 22 9 5 _ 0 c underlying22 underlying5 underlying9];cases p<;>simp[Conv.bytesToString,loadCells]
 all_goals rfl
def DU {w:aj}{a:ax bR}{l:aq ar}(hl:aB w 1 dG a cap l):(convert 22 9 (js a l cap)).run prog w= .ok (.string (Go.strOfNums l)) w:=by
 cases a with
 | none=>
  have h0:l=[]:=by
   cases l with
   | nil=>rfl
   | cons c l=>obtain⟨b,off,v,e,_⟩:=hl.at_ 0 ee;cases e
  subst h0;exact Go.run_convert_bytes_nil w 22 5 underlying22 underlying5 _ _ 9 underlying9
 | some ad=>
  by_cases h0:l=[]
  ·subst h0;exact z3o w (bt ad) cap
  refine Ey fun b off _ e=>?_;cases e;refine Go.run_convert_bytes_arg w 22 5 underlying22 underlying5 b off l cap l rfl (fun i H=> ?_) 9 underlying9;obtain⟨B,o,v,e,d,f,g⟩:=hl.at_ i H;cases e;obtain rfl:v=[cW .u8 l[i]]:=g;have:=f 0 ee
  simpa [Na,H]using this
open Go.Sort
def wR (w:aj) (n:ar) (e:Ending) (w':aj):Prop:=e=cL (jV n)/\jb w w'
def UA (x:aF) (A:ax bR) (c:av) (a b:ar) (w:aj):jW 314 #[jY x A c,a,b] w (wR w (gS x a b)):=by
 have H:bG (∀n:ar,(if x.pt=0 then(if(a=0/\b=1)\/(a=1/\b=0)then 0 else-1)else if a=0/\(b=1\/b=2)then b else if b=0/\(a=1\/a=2)then a else-1)=n->wR w (gS x a b) (cL (jV n)) (w.alloc (cO #[x.id,x.pt,js A x.ends c] 80))):=fun n h=>by
  subst h;exact⟨rfl,aR⟩
 generalize gS x a b=L at *;unfold jY;go_in;go_wp2_with fail
 all_goals
  go_ret;refine H _ ?_;simp only[Da,Nd,ne_eq]at *
  repeat' split
  all_goals omega
def z3p {p:Pl}{a b:ar}{k:av}(c:k<p.G.length) (h1:p.G[k].sec=a) (h2:p.G[k].en=b) (H: ∀j (h:j<p.G.length),j<k->ab (p.G[j].sec=a/\p.G[j].en=b)=aW):fF p a b=p.G[k].id:=by
 unfold fF;have:p.G.find? (fun x=>ab (x.sec=a/\x.en=b))=bt p.G[k]:=aq.find?_eq_some_iff_getElem.2 ⟨Ni ⟨h1,h2⟩,k,c,rfl,fun j hj=>by rw[H j ed hj];rfl⟩;rw[this]
def z3q {p:Pl}{a b:ar}(H: ∀j (h:j<p.G.length),ab (p.G[j].sec=a/\p.G[j].en=b)=aW):fF p a b=0:=by
 unfold fF;rw[Fq.2];intro x hx;obtain⟨i,c,rfl⟩:=No hx;rw[H i c];simp
def TZ (p:Pl) (s q gg r:bw) (a b:ar) (w:aj) (e:bN w s q gg r p) (f:p.Fit):jW 219 #[aT p s q gg r,a,b] w (wR w (fF p a b)):=by
 have g:bG ((∀j (h:j<p.G.length),ab (p.G[j].sec=a/\p.G[j].en=b)=aW)->fF p a b=0):=z3q;have l:bG (∀k (c:k<p.G.length),p.G[k].sec=a->p.G[k].en=b->(∀j (h:j<p.G.length),j<k->ab (p.G[j].sec=a/\p.G[j].en=b)=aW)->fF p a b=p.G[k].id):=fun k c=>z3p c;obtain⟨a3,k3,rfl,h3⟩:=e.G;have n:bG (∀W,jb w W->aB W 3 gZ a3 k3 p.G):=fun W o=>h3.below lA o;have t:=f.G;generalize fF p a b=L at *;unfold aT;go_in;go_upto_region 1 with fail;generalize hW:cj _ _=W0;have K1:=hI (jG hW)
 have P:jc W0 w 4 (js a3 p.G k3):=Qc
 have lb:=Mt P;go_wp2_with fail
 go_loop [7] (fun i=> ∃k:av,k<=p.G.length/\i= jV k/\ ∀j (h:j<p.G.length),j<k->ab (p.G[j].sec=a/\p.G[j].en=b)=aW) (fun i=>p.G.length-(intOf i).toNat)
 case atStart=>exact⟨0,ed,rfl,fun j h h0=>by omega⟩
 case round=>
  obtain⟨k,c,rfl,d⟩:=hrel;have H:=hI d;by_cases G9:k<p.G.length
  ·have hd:=bL G9;obtain⟨B,off,rfl,x0,x1,x2⟩:=(n _ K1).sg G9;have c0:=aQ k;have c1:=aN G9;have l9:=My _ _ x0;by_cases h1:p.G[k].sec=a
   ·have e1:(p.G[k].sec==a)=bl:=(by simp[h1]);by_cases h2:p.G[k].en=b
    ·have e2:(p.G[k].en==b)=bl:=(by simp[h2]);have HE:=hI (l k G9 h1 h2 H);go_wp2_with fail;go_ret;exact Uk
    have e2:(p.G[k].en==b)=aW:=(by simp[h2]);have HE:bG (ab (p.G[k].sec=a/\p.G[k].en=b)=aW):=(by show _=_;simp[h2]);go_wp2_with fail;go_round
    case rel=>
     refine⟨k+1,ed,ej,fun j h hj=> ?_⟩;by_cases N7:j=k
     ·exact Uf
     exact H j h ed
    case measure=>simp[intOf];omega
   have e1:(p.G[k].sec==a)=aW:=(by simp[h1]);have HE:bG (ab (p.G[k].sec=a/\p.G[k].en=b)=aW):=(by show _=_;simp[h1]);go_wp2_with fail;go_round
   case rel=>
    refine⟨k+1,ed,ej,fun j h hj=> ?_⟩;by_cases N7:j=k
    ·exact Uf
    exact H j h ed
   case measure=>simp[intOf];omega
  obtain rfl:k=p.G.length:=ed;have hd:=bZ G9;have HE:=hI (g fun j hj=>H j hj hj);go_wp2_with fail;go_ret;exact Uk
def z3r (p:Pl) (s q gg r:bw) (n:ar) (w:aj) (c:bN w s q gg r p) (d:p.Fit):jW 223 #[aT p s q gg r,n] w (wR w (dA (fun x=>ab (x.id=n)) p.P)):=by
 have e:bG ((∀j (h:j<p.P.length),ab (p.P[j].id=n)=aW)->dA (fun x=>ab (x.id=n)) p.P= -1):=fun h=>tJ h;have f:bG (∀k (a:k<p.P.length),ab (p.P[k].id=n)=bl->(∀j (h:j<p.P.length),j<k->ab (p.P[j].id=n)=aW)->dA (fun x=>ab (x.id=n)) p.P=(k:ar)):=fun k a h1 h2=>tK a h1 h2;obtain⟨a3,k3,rfl,h3⟩:=c.P;have g:bG (∀W,jb w W->aB W 2 iA a3 k3 p.P):=fun W l=>h3.below lT l;have o:=d.P;generalize dA (fun x=>ab (x.id=n)) p.P=L at *;unfold aT;go_in;go_upto_region 1 with fail;generalize hW:cj _ _=W0;have K1:=hI (jG hW)
 have P:jc W0 w 3 (js a3 p.P k3):=Qc
 have lb:=Mt P;go_wp2_with fail
 go_loop [5] (fun i=> ∃k:av,k<=p.P.length/\i= jV k/\ ∀j (h:j<p.P.length),j<k->ab (p.P[j].id=n)=aW) (fun i=>p.P.length-(intOf i).toNat)
 case atStart=>exact⟨0,ed,rfl,fun j h h0=>by omega⟩
 case round=>
  obtain⟨k,a,rfl,b⟩:=hrel;have H:=hI b;by_cases G9:k<p.P.length
  ·have hd:=bL G9;obtain⟨B,off,rfl,x0,x1⟩:=(g _ K1).pt G9;have c0:=aQ k;have c1:=aN G9;have l9:=My _ _ x0;by_cases h1:p.P[k].id=n
   ·have e1:(p.P[k].id==n)=bl:=(by simp[h1]);have HE:=hI (f k G9 (by simp[h1]) H);go_wp2_with fail;go_ret;exact Uk
   have e1:(p.P[k].id==n)=aW:=(by simp[h1]);have HE:=hI (jU h1);go_wp2_with fail;go_round
   case rel=>
    refine⟨k+1,ed,ej,fun j h hj=> ?_⟩;by_cases N7:j=k
    ·exact Uf
    exact H j h ed
   case measure=>simp[intOf];omega
  obtain rfl:k=p.P.length:=ed;have hd:=bZ G9;have HE:=hI (e fun j hj=>H j hj hj);go_wp2_with fail;go_ret;exact Uk
def z3s (l:Lk) (r:Rt) (w:aj) (a:r.A.length<=17592186044416):jW 315 #[cZ #[l.id,cW .u8 l.ph,l.gone,l.left],r.A.length,r.T] w (bY w (ab (kX l r))):=by
 have H:bG (∀(b:aU) X,(b=bl↔kX l r)->bY w (ab (kX l r)) (cL (db b)) (w.alloc X)):=fun b X h=>by
  have:b=ab (kX l r):=by rw[Dh,h];simp
  subst this;exact⟨rfl,aR⟩
 generalize ab (kX l r)=L at *;go_in;go_wp2_with fail
 all_goals
  go_ret;refine H _ _ ?_;unfold kX
  try simp only[Da,Nd,ne_eq]at *
  first | omega | (simp<;>omega)
def TY {α:Type}{l m:aq α}(hl:l.length=m.length) (h: ∀k (h:k<l.length) (h':k<m.length),l[k]=m[k]):l=m:=Sf hl h
def DT {C D:ax bw}{κ κ':IntKind}{u v:ar}(_:C=bt (cW κ u)) (_:D=bt (cW κ' v)): ∃q:aU,(u==v)=q/\(u != v)= !q/\bG (u=v↔q=bl):=⟨u==v,rfl,rfl,by unfold bG;simp⟩
abbrev oR {α:Type} [DecidableEq α] (N F sz:av) (R:aj->aq bw->α->Prop):Prop:= ∀(a b:ax bR) (ca cb:av) (l m:aq α) (w:aj),aB w sz R a ca l->aB w sz R b cb m->l.length<=N->m.length<=N->jW F #[js a l ca,js b m cb] w (bY w (ab (l=m)))
def TW {x y:Pt}(h0:x.id=y.id) (h1:x.sec=y.sec):x=y:=by cases x;cases y;simp_all
def TV {x y:Sg}(h0:x.id=y.id) (h1:x.sec=y.sec) (h2:x.en=y.en):x=y:=by cases x;cases y;simp_all
def TU {x y:Tk}(h0:x.id=y.id) (h1:x.is=y.is):x=y:=by cases x;cases y;simp_all
def VC {x y:Sw}(h0:x.id=y.id) (h1:x.lie=y.lie) (h2:x.call=y.call):x=y:=by cases x;cases y;simp_all
def VB {x y:Jn}(h0:x.tt=y.tt) (h1:x.en=y.en):x=y:=by cases x;cases y;simp_all
def UZ {x y:Fl}(h0:x.pt=y.pt) (h1:x.lie=y.lie):x=y:=by cases x;cases y;simp_all
def UY {x y:Lk}(h0:x.id=y.id) (h1:x.ph=y.ph) (h2:x.gone=y.gone) (h3:x.left=y.left):x=y:=by cases x;cases y;simp_all
theorem cI:oR 1000 146 2 iA/\oR 1000 147 3 gZ/\oR 1000 148 2 nX/\oR 1000 149 3 mR/\oR 8796093022208 142 2 fI/\oR 8796093022208 145 2 lZ/\oR 1000 150 4 mS:=by
 refine⟨?F,?n,?o,?p,?q,?r,?s⟩
 all_goals
  intro a b ca Q l m w hl K v x;have h1:l.length<=8796093022208:=ed
  have h2:m.length<=8796093022208:=ed
  clear v x;have L:=hI fun W (hb:jb w W)=>hl.below (fun _ _ _ _ _ h=>h) hb;have M:=hI fun W (hb:jb w W)=>K.below (fun _ _ _ _ _ h=>h) hb;have y:bG (l.length≠m.length->ab (l=m)=aW):=fun h=>Mw fun e=>h Qn;refine Rl fun HV2=>?_;have A:bG (∀k (h:k<l.length) (h':k<m.length),l[k]≠m[k]->ab (l=m)=aW):=fun k h h' h3=>Mw fun e=>h3 Oz;clear hl K;generalize ab (l=m)=B at *
 case' F=>go_in
 case' n=>go_in
 case' o=>go_in
 case' p=>go_in
 case' q=>go_in
 case' r=>go_in
 case' s=>go_in
 all_goals
  by_cases H:l.length=m.length
  case neg=>
   have HE:=hI (y H);have td:((l:ar)==(m:ar))=aW:=Ov;have T:((l:ar) != (m:ar))=bl:=Vl;clear H;refine ei ?_;exact⟨ew,Nb _ _⟩
  have HLE:=hI H;have td:((l:ar)==(m:ar))=bl:=Ve
  have T:((l:ar) != (m:ar))=aW:=Vl
  clear H;go_wp2_with fail;go_loopg [13] l.length (fun g i wr=> ∃k:av,k<=l.length/\g=l.length-k/\i= jV k/\jb w wr/\ ∀j (h:j<l.length) (h':j<m.length),j<k->l[j]=m[j])
  ·exact⟨0,ed,ed,rfl,Nb _ _,fun j _ _ hj=>cv hj (Pm _)⟩
  obtain⟨k,R,rfl,rfl,hb,ho⟩:=hrel;refine Qa fun t j9=>?_;clear hb ho;by_cases G9:k<l.length
  case neg=>
   obtain rfl:k=l.length:=ed;have hd:=bZ G9;refine ZJ fun HE=>?_;refine ei ?_;exact⟨ew,t⟩
  refine ZC fun _ f=>?_;obtain⟨g,off,U,rfl,D,c,E⟩:=(L wr t).at_ k G9;obtain⟨g2,O,V,rfl,G,d,I⟩:=(M wr t).at_ k f;cases E;cases I;have pp0:=c 0 ee;have y0:=d 0 ee;have x1:=c 1 ee;have y1:=d 1 ee;simp only[Pk,Nu,Dl]at pp0 y0 x1 y1;obtain⟨q0,t0,n0,z⟩:=DT pp0 y0;obtain⟨q1,t1,n1,Z⟩:=DT x1 y1;refine Om fun _ _=>?_;refine Qb fun _ _=>?_;have c2:=aN f
  try
   have x2:=c 2 ee;have y2:=d 2 ee;simp only[Nu,Dl]at x2 y2;obtain⟨q2,t2,n2,u⟩:=DT x2 y2;cases q2
  all_goals
   try
    have x3:=c 3 ee;have y3:=d 3 ee;simp only[Nu,Dl]at x3 y3;obtain⟨q3,t3,n3,z3⟩:=DT x3 y3;cases q3
  all_goals
   clear D c G d;cases q0<;>cases q1
  all_goals
   simp only[Hv,Hp]at n0 n1
   try simp only[Hv,Hp]at n2
   try simp only[Hv,Hp]at n3
   first
   | have N:bG (l[k]=m[k]):=(by first | exact UY (z.2 rfl) (Z.2 rfl) (u.2 rfl) (z3.2 rfl) | exact TV (z.2 rfl) (Z.2 rfl) (u.2 rfl) | exact VC (z.2 rfl) (Z.2 rfl) (u.2 rfl) | exact TW (z.2 rfl) (Z.2 rfl) | exact TU (z.2 rfl) (Z.2 rfl) | exact VB (z.2 rfl) (Z.2 rfl) | exact UZ (z.2 rfl) (Z.2 rfl));have P:bG (∀j (h:j<l.length) (h':j<m.length),j<k+1->l[j]=m[j]):=fun j J C j3=>(av.lt_or_eq_of_le (av.le_of_lt_succ j3)).elim (fun h=>j9 j J C h) (fun h=>by subst h;exact N)
   | have HE:=hI (A k G9 f fun e=>by first | exact aU.noConfusion (z.1 Qn) | exact aU.noConfusion (Z.1 Qn) | exact aU.noConfusion (u.1 Qn) | exact aU.noConfusion (z3.1 Qn))
   go_upto_region 6 with fail;go_quiet (fail);go_wp2_with fail
   first
   | (go_ret;exact⟨ew,dM t _⟩)
   | (go_roundg (l.length-(k+1));(case measure=>go_light;omega);(case rel=>go_light;exact⟨k+1,ed,ed,ej,dM t _,P⟩))
def z3t:oR 1000 146 2 iA:=cI.1
def z3u:oR 1000 147 3 gZ:=cI.2.1
def z3v:oR 1000 148 2 nX:=cI.2.2.1
def z3w:oR 1000 149 3 mR:=cI.2.2.2.1
def z3x:oR 8796093022208 142 2 fI:=cI.2.2.2.2.1
def z3y:oR 8796093022208 145 2 lZ:=cI.2.2.2.2.2.1
def z3z:oR 1000 150 4 mS:=cI.2.2.2.2.2.2
def kO {α:Type}(f:α->α->aU):aq α->aq α->aU
 | [],[]=>bl
 | x::l,y::m=>f x y&&kO f l m
 | _,_=>aW
def cA {α:Type}{f:α->α->aU}: ∀ {l m:aq α},kO f l m=bl↔l.length=m.length/\ ∀i (h:i<l.length) (h':i<m.length),f l[i] m[i]=bl
 | [],[]=>by simp[kO]
 | [],y::m=>by simp[kO]
 | x::l,[]=>by simp[kO]
 | x::l,y::m=>by
  rw[kO,Dt,cA];constructor
  ·rintro⟨h1,h2,h3⟩;refine⟨by simp[h2],fun i hi H=> ?_⟩;cases i with
   | zero=>exact h1
   | succ i=>exact h3 i Og (by simpa using H)
  rintro⟨h2,h3⟩;exact⟨h3 0 ee ee,by simpa using h2,fun i hi H=>h3 (i+1) Og (by simpa using H)⟩
def UX {α:Type} [DecidableEq α] (l m:aq α):kO (fun x y=>ab (x=y)) l m=ab (l=m):=by
 rw[Dh,cA,Dj];constructor
 ·rintro⟨h1,h2⟩;exact Sf h1 fun i h h'=>Ib (h2 i h h')
 rintro rfl;exact⟨rfl,fun i h h'=>Ni rfl⟩
def UW {x y:aF}(h1:x.id=y.id) (h2:x.pt=y.pt) (h3:x.ends=y.ends):x=y:=by cases x;cases y;simp_all
def UV {x y:Rt}(h1:x.id=y.id) (h2:x.E=y.E) (h3:x.X=y.X) (h4:x.A=y.A) (h5:x.O=y.O) (h6:x.fl=y.fl) (h7:x.T=y.T):x=y:=by cases x;cases y;simp_all
def UT (a b:ax bR) (ca c:av) (l m:aq ar) (w:aj) (hl:eP w (js a l ca) l) (H:eP w (js b m c) m) (h1:l.length<=17592186044416) (h2:m.length<=17592186044416):
  jW 99 #[js a l ca,js b m c] w (bY w (lH l m)):=by
 obtain⟨_,_,e1,k1⟩:=hl.at_;obtain⟨_,_,e2,k2⟩:=H.at_;cases e1;cases e2;refine(pe _ _ _ _ _ _ l m w k1 k2 ed ed).mono ?_;rintro e W h;unfold DZ at h;obtain⟨h,n,d⟩:=h;exact⟨h,by rw[d];exact dM Qy _⟩
theorem z30 (x y:aF) (a b:ax bR) (c d:av) (w:aj) (hx:aB w 2 fI a c x.ends) (p:aB w 2 fI b d y.ends) (h1:x.ends.length<=8796093022208) (h2:y.ends.length<=8796093022208):
  jW 141 #[cZ #[x.id,x.pt,js a x.ends c],cZ #[y.id,y.pt,js b y.ends d]] w (bY w (ab (x=y))):=by
 have HC1:=hI fun W i=>z3x a b c d x.ends y.ends W (hx.below lB i) (p.below lB i) h1 h2;refine Kd fun k=>?_;clear hx p;generalize ab (x=y)=B at *;go_enter func141,ntmps141;go_upto_region 1 with fail;obtain⟨W0,i5⟩: ∃W0,W0=(w.alloc (cO #[x.id,x.pt,js a x.ends c] 80)).alloc (cO #[y.id,y.pt,js b y.ends d] 80):=⟨_,rfl⟩;rw[<-i5];have K0:bG (jb w W0):=by show cB _ _ _;rw[i5];exact aR.alloc ee _
 have N9:bG (jk W0 w #[x.id,x.pt,js a x.ends c] 80):=by show _=_;rw[i5];exact(Nv _ _ ee).trans Oa
 have HY0:bG (jk W0 (w+1) #[y.id,y.pt,js b y.ends d] 80):=Kg
 clear i5;refine Kf fun KR j f=>?_;have X:=ji 0 j;have q:=ji 1 j;have r:=ji 2 j;have Y:=ji 0 f;have s:=ji 1 f;have u:=ji 2 f;have L:=aD j;have v:=aD f;clear j f;by_cases h0:x.id=y.id
 ·have t:(x.id==y.id)=bl:=by rw[Da];exact h0
  have l:=hI h0;clear h0;by_cases he:x.pt=y.pt
  ·have T:(x.pt==y.pt)=bl:=Xv;have n:=hI he;clear he;by_cases H:x.ends=y.ends
   ·have o:=hI H;refine Ux fun A7=>?_;rw[show(ab (x.ends=y.ends))=bl from Ni H]at A7;clear H;go_wp2_with fail;refine A7.mono ?_;rintro xa W3 ⟨rfl,i⟩;have g:=jh KR i;have HE:=hI (k.1 (UW l n o));refine ei ?_;exact⟨ew,jo K0 g⟩
   have HE:=hI (k.2 fun e=>H Qn);refine Ux fun A7=>?_;rw[show(ab (x.ends=y.ends))=aW from Mw H]at A7;go_wp2_with fail;refine A7.mono ?_;rintro xa xb ⟨rfl,i⟩;have g:=jh KR i;have j:=jm g N9;have f:=jm g HY0;refine ei ?_;exact⟨ew,jo K0 g⟩
  have T:(x.pt==y.pt)=aW:=Ui;have HE:=hI (k.2 fun e=>he Qn);refine ei ?_;exact⟨ew,jo K0 KR⟩
 have t:(x.id==y.id)=aW:=by exact Ua
 have HE:=hI (k.2 fun e=>h0 Qn);refine ei ?_;exact⟨ew,jo K0 KR⟩
theorem z31 (x y:Rt) (K M F N O G:ax bR) (P Q I R T J:av) (w:aj) (hx:dY w (js K x.A P) (js M x.O Q) (js F x.fl I) x) (a0:dY w (js N y.A R) (js O y.O T) (js G y.fl J) y) (h1:x.fit) (h2:y.fit):
  jW 144 #[cZ #[x.id,x.E,x.X,js K x.A P,js M x.O Q,js F x.fl I,x.T],cZ #[y.id,y.E,y.X,js N y.A R,js O y.O T,js G y.fl J,y.T]] w (bY w (ab (x=y))):=by
 have A:bG (∀W,jb w W->dY W (js K x.A P) (js M x.O Q) (js F x.fl I) x):=fun W H=>hx.below H;have C:bG (∀W,jb w W->dY W (js N y.A R) (js O y.O T) (js G y.fl J) y):=fun W H=>a0.below H;have HC1:=hI fun W H=>UT _ _ _ _ _ _ W (A W H).A (C W H).A h1.1 h2.1;have U:=hI fun W H=>UT _ _ _ _ _ _ W (A W H).O (C W H).O h1.2.1 h2.2.1
 have V:bG (∀W,jb w W->jW 145 #[js F x.fl I,js G y.fl J] W (bY W (ab (x.fl=y.fl)))):=fun W H=>by
  obtain⟨_,_,e1,k1⟩:=(A W H).fl;obtain⟨_,_,e2,k2⟩:=(C W H).fl;cases e1;cases e2;exact z3y _ _ _ _ _ _ W k1 k2 h1.2.2 h2.2.2
 refine Kd fun D=>?_;clear hx a0 A C;generalize ab (x=y)=B at *;go_enter func144,ntmps144;go_upto_region 1 with fail;obtain⟨W0,i5⟩: ∃W0,W0=(w.alloc (cO #[x.id,x.E,x.X,js K x.A P,js M x.O Q,js F x.fl I,x.T] 102)).alloc (cO #[y.id,y.E,y.X,js N y.A R,js O y.O T,js G y.fl J,y.T] 102):=⟨_,rfl⟩;rw[<-i5];have K0:bG (jb w W0):=by show cB _ _ _;rw[i5];exact aR.alloc ee _
 have N9:bG (jk W0 w #[x.id,x.E,x.X,js K x.A P,js M x.O Q,js F x.fl I,x.T] 102):=by show _=_;rw[i5];exact(Nv _ _ ee).trans Oa
 have HY0:bG (jk W0 (w+1) #[y.id,y.E,y.X,js N y.A R,js O y.O T,js G y.fl J,y.T] 102):=Kg
 clear i5;refine Kf fun KR bx j7=>?_;refine ZS fun X c d k l n f Y g i o p q j L E=>?_;clear bx j7;by_cases r:x.A=y.A
 ·have Z:=hI r;refine Ux fun A7=>?_;rw[show(lH x.A y.A)=bl from Ni r]at A7;clear r;go_wp2_with fail;refine A7.mono ?_;rintro xa W1 ⟨rfl,H⟩;have a:=jh KR H;clear H;clear X Y c g d i k o l p n q f j L E;have bx:=jm a N9;have j7:=jm a HY0;refine ZS fun X c d k l n f Y g i o p q j L E=>?_;clear bx j7;by_cases s:x.O=y.O
  ·have H0:=hI s;have A7:=hI (U W1 (jo K0 a));rw[show(lH x.O y.O)=bl from Ni s]at A7;clear s;go_wp2_with fail;refine A7.mono ?_;rintro xa W2 ⟨rfl,H⟩;have b:=jh a H;clear H;clear X Y c g d i k o l p n q f j L E;have bx:=jm b N9;have j7:=jm b HY0;refine ZS fun X c d k l n f Y g i o p q j L E=>?_;clear bx j7;by_cases t:x.fl=y.fl
   ·have H1:=hI t;have A7:=hI (V W2 (jo K0 b));rw[show(ab (x.fl=y.fl))=bl from Ni t]at A7;clear t;go_wp2_with fail;refine A7.mono ?_;rintro xa W3 ⟨rfl,H⟩;have Z8:=jh b H;clear H;clear X Y c g d i k o l p n q f j L E;have bx:=jm Z8 N9;have j7:=jm Z8 HY0;have X:=ji 0 bx;have c:=ji 1 bx;have d:=ji 2 bx;have f:=ji 6 bx;have Y:=ji 0 j7;have g:=ji 1 j7;have i:=ji 2 j7;have j:=ji 6 j7;clear bx j7;by_cases u:x.id=y.id
    ·have t0:(x.id==y.id)=bl:=(by rw[Da];exact u);have H2:=hI u;clear u;by_cases v:x.E=y.E
     ·have t1:(x.E==y.E)=bl:=(by rw[Da];exact v);have H3:=hI v;clear v;by_cases z:x.X=y.X
      ·have t2:(x.X==y.X)=bl:=(by rw[Da];exact z);have H4:=hI z;clear z;by_cases he:x.T=y.T
       ·have t3:(x.T==y.T)=bl:=(by rw[Da];exact he);have H5:=hI he;clear he;have HE:=hI (D.1 (UV H2 H3 H4 Z H0 H1 H5));refine ei ?_;exact⟨ew,jo K0 Z8⟩
       have t3:(x.T==y.T)=aW:=Ui;have HE:=hI (D.2 fun e=>he Qn);clear he;refine ei ?_;exact⟨ew,jo K0 Z8⟩
      have t2:(x.X==y.X)=aW:=(by rw[Nd];exact z);have HE:=hI (D.2 fun e=>z Qn);clear z;refine ei ?_;exact⟨ew,jo K0 Z8⟩
     have t1:(x.E==y.E)=aW:=(by rw[Nd];exact v);have HE:=hI (D.2 fun e=>v Qn);clear v;refine ei ?_;exact⟨ew,jo K0 Z8⟩
    have t0:(x.id==y.id)=aW:=(by rw[Nd];exact u);have HE:=hI (D.2 fun e=>u Qn);clear u;refine ei ?_;exact⟨ew,jo K0 Z8⟩
   have HE:=hI (D.2 fun e=>t Qn);have A7:=hI (V W2 (jo K0 b));rw[show(ab (x.fl=y.fl))=aW from Mw t]at A7;clear t;go_wp2_with fail;refine A7.mono ?_;rintro xa xb ⟨rfl,H⟩;have Z8:=jh b H;clear H;clear X Y c g d i k o l p n q f j L E;refine Xt ?_;refine ei ?_;exact⟨ew,jo K0 Z8⟩
  have HE:=hI (D.2 fun e=>s Qn);have A7:=hI (U W1 (jo K0 a));rw[show(lH x.O y.O)=aW from Mw s]at A7;clear s;go_wp2_with fail;refine A7.mono ?_;rintro xa xb ⟨rfl,H⟩;have b:=jh a H;clear H;clear X Y c g d i k o l p n q f j L E;have bx:=jm b N9;have j7:=jm b HY0;clear bx j7;refine ei ?_;exact⟨ew,jo K0 b⟩
 have HE:=hI (D.2 fun e=>r Qn);refine Ux fun A7=>?_;rw[show(lH x.A y.A)=aW from Mw r]at A7;clear r;go_wp2_with fail;refine A7.mono ?_;rintro xa xb ⟨rfl,H⟩;have a:=jh KR H;clear H;clear X Y c g d i k o l p n q f j L E;have bx:=jm a N9;have j7:=jm a HY0;clear bx j7;refine ei ?_;exact⟨ew,jo K0 a⟩
theorem z32 (a b:ax bR) (ca cb:av) (l m:aq aF) (w:aj) (hl:aB w 3 cU a ca l) (hm:aB w 3 cU b cb m) (h1:l.length<=1000) (h2:m.length<=1000) (he1: ∀i (h:i<l.length),l[i].ends.length<=8796093022208) (he2: ∀i (h:i<m.length),m[i].ends.length<=8796093022208):
  jW 140 #[js a l ca,js b m cb,.func (.func 141) #[] #[]] w (bY w (kO (fun x y=>ab (x=y)) l m)):=by
 have HL:bG (∀W,jb w W->aB W 3 cU a ca l):=fun W hb=>hl.below gN hb;have HM:bG (∀W,jb w W->aB W 3 cU b cb m):=fun W hb=>hm.below gN hb;have HE1:=hI he1;have HE2:=hI he2;clear he1 he2
 have HV1:bG (l.length≠m.length->kO (fun x y=>ab (x=y)) l m=aW):=fun h=>by
  cases hh:kO (fun x y=>ab (x=y)) l m with
  | false=>rfl
  | true=>exact cv (cA.1 hh).1 h
 have HV2:bG (l.length=m.length->(∀k (h:k<l.length) (h':k<m.length),(fun x y=>ab (x=y)) l[k] m[k]=bl)->kO (fun x y=>ab (x=y)) l m=bl):=fun h h3=>cA.2 ⟨h,h3⟩
 have HV3:bG (∀k (h:k<l.length) (h':k<m.length),(fun x y=>ab (x=y)) l[k] m[k]=aW->kO (fun x y=>ab (x=y)) l m=aW):=fun k h h' h3=>by
  cases hh:kO (fun x y=>ab (x=y)) l m with
  | false=>rfl
  | true=>exact cv (((cA.1 hh).2 k h h').symm.trans h3) eh
 clear hl hm;generalize kO (fun x y=>ab (x=y)) l m=B at *;go_in;by_cases hlen:l.length=m.length
 ·have HLE:=hI hlen;have td:((l:ar)==(m:ar))=bl:=by rw[Da];omega
  have te:((l:ar) != (m:ar))=aW:=Vl
  go_wp2_with fail;go_loopg [17] l.length (fun g i wr=> ∃k:av,k<=l.length/\g=l.length-k/\i= jV k/\jb w wr/\ ∀j (h:j<l.length) (h':j<m.length),j<k->(fun x y=>ab (x=y)) l[j] m[j]=bl)
  ·exact⟨0,ed,ed,rfl,Nb _ _,fun j _ _ hj=>cv hj (Pm _)⟩
  ·obtain⟨k,hk,rfl,rfl,hb,hno⟩:=hrel;have HB:=hI hb;have HNO:=hI hno;by_cases hlt:k<l.length
   ·have hd:=bL hlt;have hlm:k<m.length:=(by rw[<-HLE.o];exact hlt);obtain⟨g,off,xa,xc,rfl,x0,x1,x2,hxj⟩:=(HL wr HB).sec hlt;obtain⟨g2,off2,ya,yc,rfl,y0,y1,y2,hyj⟩:=(HM wr HB).sec hlm;have HXJ:bG (∀W,jb wr W->aB W 2 fI xa xc l[k].ends):=fun W hb=>hxj.below lB hb;have HYJ:bG (∀W,jb wr W->aB W 2 fI ya yc m[k].ends):=fun W hb=>hyj.below lB hb;have lx:=My _ _ x0;have ly:=My _ _ y0;clear hxj hyj;have c0:=aQ k;have c1:=aN hlt;have c2:=aN hlm;go_upto_region 7 with fail;obtain⟨W9,hW9⟩: ∃W9,W9=(wr.alloc (cO #[l[k].id,l[k].pt,js xa l[k].ends.length xc] 80)).alloc (cO #[m[k].id,m[k].pt,js ya m[k].ends.length yc] 80):=⟨_,rfl⟩;rw[<-hW9];have hb9:jb wr W9:=(by rw[hW9];exact aR.alloc ee _);have hx9:jk W9 wr #[l[k].id,l[k].pt,js xa l[k].ends.length xc] 80:=(by rw[hW9];exact(Nv _ _ ee).trans Oa);have hy9:jk W9 (wr+1) #[m[k].id,m[k].pt,js ya m[k].ends.length yc] 80:=(by rw[hW9];exact Do _ _ _);have u0x:=ji 0 hx9;have u1x:=ji 1 hx9;have u2x:=ji 2 hx9;have u0y:=ji 0 hy9;have u1y:=ji 1 hy9;have u2y:=ji 2 hy9;have HB9:=jh HB hb9;have HBX9:=hI hb9;clear hb9 hx9 hy9 hW9;have HCk:=hI (z30 l[k] m[k] xa ya xc yc W9 (HXJ W9 HBX9) (HYJ W9 HBX9) (HE1 k hlt) (HE2 k hlm));have HV3k:=hI (HV3 k hlt hlm)
    have HNk:bG ((fun x y=>ab (x=y)) l[k] m[k]=bl-> ∀j (h:j<l.length) (h':j<m.length),j<k+1->(fun x y=>ab (x=y)) l[j] m[j]=bl):=fun h j j1 j2 j3=>by
     by_cases hjk:j=k
     ·subst hjk;exact h
     ·exact HNO j j1 j2 ed
    simp only[]at HV3k HNk;generalize ab (l[k]=m[k])=bk at *;cases bk with
    | true=>
     go_wp2_with fail;refine HCk.mono ?_;rintro e W3 ⟨rfl,hb⟩;have HB3:=jh HB9 hb;clear hb HCk;go_wp2_with fail;go_roundg (l.length-(k+1))
     ·go_light;exact⟨k+1,ed,ed,by go_num,HB3,HNk ee⟩
     ·go_light;omega
    | false=>
     have HE:=hI (HV3k ee);go_wp2_with fail;refine HCk.mono ?_;rintro e W3 ⟨rfl,hb⟩;have HB3:=jh HB9 hb;refine ei ?_;exact⟨ew,HB3⟩
   ·obtain rfl:k=l.length:=ed;have HE:=hI (HV2 HLE fun j j1 j2=>HNO j j1 j2 j1);refine ei ?_;exact⟨ew,HB⟩
 ·have HE:=hI (HV1 hlen);have td:((l:ar)==(m:ar))=aW:=by rw[Nd];omega
  have te:((l:ar) != (m:ar))=bl:=Vl
  refine ei ?_;exact⟨ew,Nb _ _⟩
theorem z33 (a b:ax bR) (ca cb:av) (l m:aq Rt) (w:aj) (hl:aB w 7 fH a ca l) (hm:aB w 7 fH b cb m) (h1:l.length<=1000) (h2:m.length<=1000) (he1: ∀i (h:i<l.length),l[i].fit) (he2: ∀i (h:i<m.length),m[i].fit):
  jW 143 #[js a l ca,js b m cb,.func (.func 144) #[] #[]] w (bY w (kO (fun x y=>ab (x=y)) l m)):=by
 have HL:bG (∀W,jb w W->aB W 7 fH a ca l):=fun W hb=>hl.below lS hb;have HM:bG (∀W,jb w W->aB W 7 fH b cb m):=fun W hb=>hm.below lS hb;have HE1:=hI he1;have HE2:=hI he2;clear he1 he2
 have HV1:bG (l.length≠m.length->kO (fun x y=>ab (x=y)) l m=aW):=fun h=>by
  cases hh:kO (fun x y=>ab (x=y)) l m with
  | false=>rfl
  | true=>exact cv (cA.1 hh).1 h
 have HV2:bG (l.length=m.length->(∀k (h:k<l.length) (h':k<m.length),(fun x y=>ab (x=y)) l[k] m[k]=bl)->kO (fun x y=>ab (x=y)) l m=bl):=fun h h3=>cA.2 ⟨h,h3⟩
 have HV3:bG (∀k (h:k<l.length) (h':k<m.length),(fun x y=>ab (x=y)) l[k] m[k]=aW->kO (fun x y=>ab (x=y)) l m=aW):=fun k h h' h3=>by
  cases hh:kO (fun x y=>ab (x=y)) l m with
  | false=>rfl
  | true=>exact cv (((cA.1 hh).2 k h h').symm.trans h3) eh
 clear hl hm;generalize kO (fun x y=>ab (x=y)) l m=B at *;go_in;by_cases hlen:l.length=m.length
 ·have HLE:=hI hlen;have td:((l:ar)==(m:ar))=bl:=by rw[Da];omega
  have te:((l:ar) != (m:ar))=aW:=Vl
  go_wp2_with fail;go_loopg [17] l.length (fun g i wr=> ∃k:av,k<=l.length/\g=l.length-k/\i= jV k/\jb w wr/\ ∀j (h:j<l.length) (h':j<m.length),j<k->(fun x y=>ab (x=y)) l[j] m[j]=bl)
  ·exact⟨0,ed,ed,rfl,Nb _ _,fun j _ _ hj=>cv hj (Pm _)⟩
  ·obtain⟨k,hk,rfl,rfl,hb,hno⟩:=hrel;have HB:=hI hb;have HNO:=hI hno;by_cases hlt:k<l.length
   ·have hd:=bL hlt;have hlm:k<m.length:=(by rw[<-HLE.o];exact hlt);obtain⟨gx,ofx,xp,xo,xf,rfl,x0,x1,x2,x3,x4,x5,x6,hxm⟩:=(HL wr HB).rt hlt;obtain⟨xp1,xp2,rfl,-⟩:=hxm.A.at_;obtain⟨xo1,xo2,rfl,-⟩:=hxm.O.at_;obtain⟨xf1,xf2,rfl,-⟩:=hxm.fl;have HXJ:bG (∀W,jb wr W->dY W (js xp1 l[k].A.length xp2) (js xo1 l[k].O.length xo2) (js xf1 l[k].fl.length xf2) l[k]):=fun W hb=>hxm.below hb;have lx:=My _ _ x0;obtain⟨gy,ofy,yp,yo,yf,rfl,y0,y1,y2,y3,y4,y5,y6,hym⟩:=(HM wr HB).rt hlm;obtain⟨yp1,yp2,rfl,-⟩:=hym.A.at_;obtain⟨yo1,yo2,rfl,-⟩:=hym.O.at_;obtain⟨yf1,yf2,rfl,-⟩:=hym.fl;have HYJ:bG (∀W,jb wr W->dY W (js yp1 m[k].A.length yp2) (js yo1 m[k].O.length yo2) (js yf1 m[k].fl.length yf2) m[k]):=fun W hb=>hym.below hb;have ly:=My _ _ y0;clear hym;have c0:=aQ k;have c1:=aN hlt;have c2:=aN hlm;go_upto_region 7 with fail;obtain⟨W9,hW9⟩: ∃W9,W9=(wr.alloc (cO #[l[k].id,l[k].E,l[k].X,js xp1 l[k].A.length xp2,js xo1 l[k].O.length xo2,js xf1 l[k].fl.length xf2,l[k].T] 102)).alloc (cO #[m[k].id,m[k].E,m[k].X,js yp1 m[k].A.length yp2,js yo1 m[k].O.length yo2,js yf1 m[k].fl.length yf2,m[k].T] 102):=⟨_,rfl⟩;rw[<-hW9];have hb9:jb wr W9:=(by rw[hW9];exact aR.alloc ee _);have hx9:jk W9 wr #[l[k].id,l[k].E,l[k].X,js xp1 l[k].A.length xp2,js xo1 l[k].O.length xo2,js xf1 l[k].fl.length xf2,l[k].T] 102:=(by rw[hW9];exact(Nv _ _ ee).trans Oa);have hy9:jk W9 (wr+1) #[m[k].id,m[k].E,m[k].X,js yp1 m[k].A.length yp2,js yo1 m[k].O.length yo2,js yf1 m[k].fl.length yf2,m[k].T] 102:=(by rw[hW9];exact Do _ _ _);have u0x:=ji 0 hx9;have u1x:=ji 1 hx9;have u2x:=ji 2 hx9;have u3x:=ji 3 hx9;have u4x:=ji 4 hx9;have u5x:=ji 5 hx9;have u6x:=ji 6 hx9
    have u0y:=ji 0 hy9;have u1y:=ji 1 hy9;have u2y:=ji 2 hy9;have u3y:=ji 3 hy9;have u4y:=ji 4 hy9;have u5y:=ji 5 hy9;have u6y:=ji 6 hy9;have HB9:=jh HB hb9;have HBX9:=hI hb9;clear hb9 hx9 hy9 hW9;have HCk:=hI (z31 l[k] m[k] xp1 xo1 xf1 yp1 yo1 yf1 xp2 xo2 xf2 yp2 yo2 yf2 W9 (HXJ W9 HBX9) (HYJ W9 HBX9) (HE1 k hlt) (HE2 k hlm));have HV3k:=hI (HV3 k hlt hlm)
    have HNk:bG ((fun x y=>ab (x=y)) l[k] m[k]=bl-> ∀j (h:j<l.length) (h':j<m.length),j<k+1->(fun x y=>ab (x=y)) l[j] m[j]=bl):=fun h j j1 j2 j3=>by
     by_cases hjk:j=k
     ·subst hjk;exact h
     ·exact HNO j j1 j2 ed
    simp only[]at HV3k HNk;generalize ab (l[k]=m[k])=bk at *;cases bk with
    | true=>
     go_wp2_with fail;refine HCk.mono ?_;rintro e W3 ⟨rfl,hb⟩;have HB3:=jh HB9 hb;clear hb HCk;go_wp2_with fail;go_roundg (l.length-(k+1))
     ·go_light;exact⟨k+1,ed,ed,by go_num,HB3,HNk ee⟩
     ·go_light;omega
    | false=>
     have HE:=hI (HV3k ee);go_wp2_with fail;refine HCk.mono ?_;rintro e W3 ⟨rfl,hb⟩;have HB3:=jh HB9 hb;refine ei ?_;exact⟨ew,HB3⟩
   ·obtain rfl:k=l.length:=ed;have HE:=hI (HV2 HLE fun j j1 j2=>HNO j j1 j2 j1);refine ei ?_;exact⟨ew,HB⟩
 ·have HE:=hI (HV1 hlen);have td:((l:ar)==(m:ar))=aW:=by rw[Nd];omega
  have te:((l:ar) != (m:ar))=bl:=Vl
  refine ei ?_;exact⟨ew,Nb _ _⟩
