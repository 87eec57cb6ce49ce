/- Walks and plain laws for the statement. -/
import Derived.Test.YtbiehpjhhopjaaaGreatT3
import Derived.RangeFuncNested
import Derived.RangeFuncBound
import Derived.Shelf.RegionOpen
import Derived.OwnWalkIn
import Derived.LoopNIn
import Derived.LoopIn
import Derived.Lib.Bytes
set_option linter.all false
set_option maxRecDepth 100000
set_option maxHeartbeats 16000000
namespace Go.Proofs.YtbiehpjhhopjaaaGreat
variable {r:Rt}{n:Int}{W:World}{cap e off sz:Nat}{o:Obj}{pre:List Nat}{T:Value}
def gS (s:aF) (a b:Int):Int:=
 if s.pt=0 then(if(a=0/\b=1)\/(a=1/\b=0)then 0 else-1)
 else if a=0/\(b=1\/b=2)then b else if b=0/\(a=1\/a=2)then a else-1
def VN {s:aF}(h:s.Shaped) (a b:Int):lO s a b=if a<0\/2<a\/b<0\/2<b\/rC s.pt a b=0 then 2 else 0:=by
 unfold lO;rw[Nm (by simpa using h)]
def z1r {s:aF}(h:s.Shaped){a b:Int}(H: ¬0<=gS s a b):lO s a b≠0:=by
 rw[VN h];unfold gS at H;unfold rC;split at H
 ·rename_i h0
  rw[Np h0];split at H
  ·omega
  rename_i h1;rw[Nm h1];simp
 rename_i h0
 rw[Nm h0];split at H
 ·omega
 split at H
 ·omega
 rename_i h1 h2
 have e1: ¬((a=0/\b=1)\/(a=1/\b=0)):=ed;have e2: ¬((a=0/\b=2)\/(a=2/\b=0)):=ed;rw[Nm e1,Nm e2];simp
def VM {s:aF}(h:s.Shaped){a b:Int}(H:0<=gS s a b):lO s a b=0/\nU s a b=gS s a b:=by
 have key:lO s a b=0/\(rC s.pt a b).tmod 3=gS s a b:=by
  rw[VN h];unfold gS at *;unfold rC;by_cases h0:s.pt=0
  ·rw[Np h0]at H;by_cases h1:(a=0/\b=1)\/(a=1/\b=0)
   ·simp only[Np h0,Np h1];refine⟨by rw[Nm ed],eh⟩
   rw[Nm h1]at H;omega
  rw[Nm h0]at H;simp only[Nm h0];by_cases h1:a=0/\(b=1\/b=2)
  ·obtain⟨rfl,h2⟩:=h1;rcases h2 with rfl | rfl<;>refine⟨ee,ee⟩
  rw[Nm h1]at H;by_cases h2:b=0/\(a=1\/a=2)
  ·obtain⟨rfl,h3⟩:=h2;rcases h3 with rfl | rfl<;>refine⟨ee,ee⟩
  rw[Nm h2]at H;omega
 refine⟨key.1,?_⟩;unfold nU;rw[Np key.1];exact key.2
def fF (p:Pl) (sec en:Int):Int:=match p.G.find? (fun x=>decide (x.sec=sec/\x.en=en))with | some x=>x.id | none=>0
def bO (p:Pl) (r:Rt) (i:Nat):aF:=dW aF.id lE p.S ((aI r).getD i 0)
def kZ (p:Pl) (r:Rt) (i:Nat) (a:Int) (e:Nat):Bool:=
 decide (0<=gS (bO p r i) a e)&&
  (if i+1=r.A.length then decide ((r.X=0/\((bO p r i).ends.getD e ⟨0,0⟩).tt=0)\/(r.X≠0/\fF p (bO p r i).id e=r.X))
   else decide (((bO p r i).ends.getD e ⟨0,0⟩).tt=(aI r).getD (i+1) 0))
def jL (p:Pl) (r:Rt) (i:Nat) (a:Int):Option Nat:=(List.range (bO p r i).ends.length).find? (kZ p r i a)
structure Rw where
 ins:List Int
 outs:List Int
 j:Jn
def qE (p:Pl) (r:Rt) (i:Nat) (w:Rw):Option Rw:=
 if w.j.tt≠(aI r).getD i 0 then none
 else if i+1=(aI r).length/\0<r.O.length then some ⟨w.ins++[w.j.en],w.outs++[-1],w.j⟩
 else match jL p r i w.j.en with
  | none=>none
  | some e=>some ⟨w.ins++[w.j.en],w.outs++[(e:Int)],(bO p r i).ends.getD e ⟨0,0⟩⟩
def iL (p:Pl) (r:Rt):Nat->Option Rw
 | 0=>some ⟨[],[],zN p r⟩
 | i+1=>(iL p r i).bind (qE p r i)
def iM (p:Pl) (r:Rt):Option Rw:=iL p r (aI r).length
def rA (p:Pl) (r:Rt) (i:Nat) (a o:Int):List dV:=
 if(bO p r i).pt=0 then []else
  if 0<(if 0<=o then gS (bO p r i) a o else a)then [⟨(bO p r i).pt,if 0<=o then gS (bO p r i) a o else a,i⟩]else []
def lP (p:Pl) (r:Rt) (ins outs:List Int):Nat->List dV
 | 0=>[]
 | i+1=>lP p r ins outs i++rA p r i (ins.getD i 0) (outs.getD i 0)
def oA (r:Rt) (outs:List Int):Nat->List Jn
 | 0=>[]
 | i+1=>oA r outs i++(if 0<=outs.getD i 0 then [⟨(aI r).getD i 0,outs.getD i 0⟩]else [])
def LF (p:Pl) (r:Rt) (ins outs:List Int) (a o:Int): ∀i,i<=ins.length->i<=outs.length->lP p r (ins++[a]) (outs++[o]) i=lP p r ins outs i
 | 0,_,_=>rfl
 | i+1,h1,h2=>by
  rw[lP,lP,LF p r ins outs a o i ed ed];have e1:(ins++[a]).getD i 0=ins.getD i 0:=by refine jd ?_;rw[Pd ed]
  have e2:(outs++[o]).getD i 0=outs.getD i 0:=by refine jd ?_;rw[Pd ed]
  rw[e1,e2]
def LE (r:Rt) (outs:List Int) (o:Int): ∀i,i<=outs.length->oA r (outs++[o]) i=oA r outs i
 | 0,_=>rfl
 | i+1,h2=>by
  rw[oA,oA,LE r outs o i ed];have e2:(outs++[o]).getD i 0=outs.getD i 0:=by refine jd ?_;rw[Pd ed]
  rw[e2]
def zT (l:List Int) (a:Int):(l++[a]).getD l 0=a:=by simp[Na]
def CX (p:Pl) (r:Rt): ∀i w,iL p r i=some w->w.ins.length=i/\w.outs.length=i
 | 0,w,h=>by cases h;exact⟨rfl,rfl⟩
 | i+1,w,h=>by
  rw[iL]at h;cases hp:iL p r i with
  | none=>rw[hp]at h;cases h
  | some v=>
   rw[hp]at h;have h:qE p r i v=some w:=h;obtain⟨h1,h2⟩:=CX p r i v hp;unfold qE at h;split at h
   ·cases h
   split at h
   ·cases h;simp[h1,h2]
   split at h
   ·cases h
   cases h;simp[h1,h2]
structure rP (p:Pl) (r:Rt):Prop where
 shaped: ∀i,i<(aI r).length->dX aF.id p.S ((aI r).getD i 0)=true/\(bO p r i).Shaped/\(bO p r i).id=(aI r).getD i 0
 ends: ∀i,i<(aI r).length-> ∀e (he:e<(bO p r i).ends.length),(bO p r i).ends[e].tt=0->(bO p r i).ends[e].en=0
 A:1<=r.A.length
 X:r.X≠0-> ∀s e:Int,fF p s e=r.X↔(s=(iZ p r.X).sec/\e=(iZ p r.X).en)
 O:r.X=0->r.O.length=0
def oY (r:Rt):(aI r).length=r.A.length+r.O.length:=by unfold aI;simp
def VL {f g:Nat->Bool}: ∀ {l:List Nat},(∀e∈l,f e=g e)->l.find? f=l.find? g
 | [],_=>rfl
 | x::l,h=>by
  rw[List.find?_cons,List.find?_cons,h x Dq,VL fun e he=>h e (Dy _ he)]
def z1s {p:Pl}(c:rP p r){i:Nat}(d:i<(aI r).length){k:Wk}(hl:k.lost=false){a:Int}(f:k.inn.en=a){right:Nat->Jn->Bool}
  (j: ∀e,e<(bO p r i).ends.length->right e ((bO p r i).ends.getD e ⟨0,0⟩)=(if i+1=r.A.length then decide ((r.X=0/\((bO p r i).ends.getD e ⟨0,0⟩).tt=0)\/(r.X≠0/\fF p (bO p r i).id e=r.X))else decide (((bO p r i).ends.getD e ⟨0,0⟩).tt=(aI r).getD (i+1) 0))):
  (List.range (bO p r i).ends.length).find? (oT (bO p r i) k right)=jL p r i a:=by
 unfold jL;refine VL fun e he=> ?_;have he:=List.mem_range.1 he;unfold oT kZ;rw[hl,j e he,f];simp only[Hp,Fa]
 congr 1
 rw[Ss];have H:=(c.shaped i d).2.1;constructor
 ·intro h;by_cases b:0<=gS (bO p r i) a e
  ·exact b
  exact absurd h (z1r H b)
 intro h;exact(VM H h).1
def z1t {p:Pl}(b:rP p r){i:Nat}(c:i<(aI r).length){a:Int}(he:0<=gS (bO p r i) a e) (k:Wk):
  kB k (bO p r i).pt (nU (bO p r i) a e) i={k with asks:=k.asks++rA p r i a e}:=by
 have H:=(b.shaped i c).2.1;rw[(VM H he).2];unfold kB rA;rw[Np (Hy e)];have d:0<=(bO p r i).pt:=by rcases H with h | h<;>omega
 by_cases h0:(bO p r i).pt=0
 ·rw[Nm ed,Np h0];simp
 rw[Nm h0];by_cases h1:0<gS (bO p r i) a e
 ·rw[Np ⟨ed,h1⟩,Np h1]
 rw[Nm (fun h=>h1 h.2),Nm h1];simp
def fL (p:Pl) (r:Rt) (i:Nat) (w:Rw):Wk:=⟨w.j,lP p r w.ins w.outs i,oA r w.outs i,false⟩
def z1u {p:Pl}(b:rP p r){i:Nat}(c:i<(aI r).length){w:Rw}(d:w.ins.length=i/\w.outs.length=i) (hj:w.j.tt=(aI r).getD i 0){right:Nat->Jn->Bool}
  (f: ∀e,e<(bO p r i).ends.length->right e ((bO p r i).ends.getD e ⟨0,0⟩)=(if i+1=r.A.length then decide ((r.X=0/\((bO p r i).ends.getD e ⟨0,0⟩).tt=0)\/(r.X≠0/\fF p (bO p r i).id e=r.X))else decide (((bO p r i).ends.getD e ⟨0,0⟩).tt=(aI r).getD (i+1) 0))):
  match jL p r i w.j.en with
  | none=>(lD p.S (fL p r i w) ((aI r).getD i 0) i right).lost=true
  | some e=>lD p.S (fL p r i w) ((aI r).getD i 0) i right=fL p r (i+1) ⟨w.ins++[w.j.en],w.outs++[(e:Int)],(bO p r i).ends.getD e ⟨0,0⟩⟩:=by
 have H:qJ p.S (fL p r i w) ((aI r).getD i 0):=⟨(b.shaped i c).1,hj⟩;have h1:kP p.S (fL p r i w) ((aI r).getD i 0)=bO p r i:=by unfold kP;rw[Np H];rfl
 have h2:fG p.S (fL p r i w) ((aI r).getD i 0)=fL p r i w:=by unfold fG;rw[Np H]
 have j:=z1s b c (k:=fL p r i w) rfl (a:=w.j.en) rfl f;unfold lD;rw[h1,h2];unfold mN;rw[j];cases ho:jL p r i w.j.en with
 | none=>rfl
 | some e=>
  simp only;have hok:=Gn ho;unfold kZ at hok;rw[Dt,Dr]at hok;have n:=z1t b c hok.1 (fL p r i w);have e0:(fL p r i w).inn.en=w.j.en:=rfl;rw[e0,n];unfold fL;have g1:(w.ins++[w.j.en]).getD i 0=w.j.en:=by rw[<-d.1];exact zT _ _
  have g2:(w.outs++[(e:Int)]).getD i 0=(e:Int):=by rw[<-d.2];exact zT _ _
  simp only[lP,oA,LF p r w.ins w.outs w.j.en e i ed ed,LE r w.outs e i ed,g1,g2,Np (Hy e)]
def z1v {p:Pl}{i:Nat}{k:Wk}(h:k.inn.tt≠(aI r).getD i 0):(eW p r i k).lost=true:=by
 have a: ¬qJ p.S k ((aI r).getD i 0):=fun b=>h b.2;have hR:(fG p.S k ((aI r).getD i 0)).lost=true:=by unfold fG;rw[Nm a]
 have H: ∀id pl right,id=(aI r).getD i 0->(lD p.S k id pl right).lost=true:=by
  intro id pl right e;subst e;cases hq:(lD p.S k ((aI r).getD i 0) pl right).lost with
  | true=>rfl
  | false=>
   have:=(km _ _ _ _ _ hq).1;rw[hR]at this;cases this
 unfold eW;split
 ·exact H _ _ _ rfl
 split
 ·exact H _ _ _ rfl
 split
 ·unfold pO;rw[Nm Eg];exact hR
 exact H _ _ _ rfl
def z1w {p:Pl}(H:rP p r){i:Nat}(a:i<(aI r).length) (b:i+1=r.A.length) (hx:r.X=0) (e:Nat) (he:e<(bO p r i).ends.length):
  rV e ((bO p r i).ends.getD e ⟨0,0⟩)=(if i+1=r.A.length then decide ((r.X=0/\((bO p r i).ends.getD e ⟨0,0⟩).tt=0)\/(r.X≠0/\fF p (bO p r i).id e=r.X))else decide (((bO p r i).ends.getD e ⟨0,0⟩).tt=(aI r).getD (i+1) 0)):=by
 rw[Np b];unfold rV;rw[Ss];have h1:(bO p r i).ends.getD e ⟨0,0⟩=(bO p r i).ends[e]:=by simp[Na,Nf he]
 rw[h1];constructor
 ·intro h;exact .inl ⟨hx,h.1⟩
 rintro(h | h)
 ·exact⟨h.2,H.ends i a e he h.2⟩
 exact absurd hx h.1
def z1x {p:Pl}(H:rP p r){i:Nat}(a:i<(aI r).length) (b:i+1=r.A.length) (hx:r.X≠0) (e:Nat) (he:e<(bO p r i).ends.length):
  tE ((aI r).getD i 0) (iZ p r.X) e ((bO p r i).ends.getD e ⟨0,0⟩)=(if i+1=r.A.length then decide ((r.X=0/\((bO p r i).ends.getD e ⟨0,0⟩).tt=0)\/(r.X≠0/\fF p (bO p r i).id e=r.X))else decide (((bO p r i).ends.getD e ⟨0,0⟩).tt=(aI r).getD (i+1) 0)):=by
 rw[Np b];unfold tE;rw[Ss,<-(H.shaped i a).2.2,<-H.X hx];constructor
 ·intro h;exact .inr ⟨hx,h⟩
 rintro(h | h)
 ·exact absurd h.1 hx
 exact h.2
def z1y {p:Pl}{i:Nat}(H:i+1≠r.A.length) (e:Nat) (he:e<(bO p r i).ends.length):
  uX ((aI r).getD (i+1) 0) e ((bO p r i).ends.getD e ⟨0,0⟩)=(if i+1=r.A.length then decide ((r.X=0/\((bO p r i).ends.getD e ⟨0,0⟩).tt=0)\/(r.X≠0/\fF p (bO p r i).id e=r.X))else decide (((bO p r i).ends.getD e ⟨0,0⟩).tt=(aI r).getD (i+1) 0)):=by
 rw[Nm H];rfl
theorem z1z {p:Pl}(a:rP p r){i:Nat}(b:i<(aI r).length){w:Rw}(d:w.ins.length=i/\w.outs.length=i):
  match qE p r i w with
  | none=>(eW p r i (fL p r i w)).lost=true
  | some v=>eW p r i (fL p r i w)=fL p r (i+1) v:=by
 have j:=oY r;unfold qE;by_cases hj:w.j.tt≠(aI r).getD i 0
 ·rw[Np hj];exact z1v hj
 rw[Nm hj];have hj:=Classical.not_not.1 hj;by_cases f:i+1=(aI r).length/\0<r.O.length
 ·rw[Np f];show eW p r i (fL p r i w)=fL p r (i+1) ⟨w.ins++[w.j.en],w.outs++[-1],w.j⟩;have c:qJ p.S (fL p r i w) ((aI r).getD i 0):=⟨(a.shaped i b).1,hj⟩;have h1:kP p.S (fL p r i w) ((aI r).getD i 0)=bO p r i:=(by unfold kP;rw[Np c];rfl);have h2:fG p.S (fL p r i w) ((aI r).getD i 0)=fL p r i w:=(by unfold fG;rw[Np c]);unfold eW;rw[Nm ed,Nm ed,Np f.1];unfold pO;rw[h1,h2];have g1:(w.ins++[w.j.en]).getD i 0=w.j.en:=(by rw[<-d.1];exact zT _ _);have g2:(w.outs++[(-1:Int)]).getD i 0= -1:=(by rw[<-d.2];exact zT _ _);have e0:(fL p r i w).inn.en=w.j.en:=rfl;have e1:(fL p r i w).lost=false:=rfl;have H:0<=(bO p r i).pt:=by rcases(a.shaped i b).2.1 with h | h<;>omega
  have E:fL p r (i+1) ⟨w.ins++[w.j.en],w.outs++[-1],w.j⟩={fL p r i w with asks:=(fL p r i w).asks++rA p r i w.j.en (-1)}:=by
   unfold fL;simp only[lP,oA,LF p r w.ins w.outs w.j.en (-1) i ed ed,LE r w.outs (-1) i ed,g1,g2];simp
  rw[E,e0,e1];unfold rA kB;by_cases h0:0<w.j.en
  ·rw[Np ⟨rfl,h0⟩];by_cases h3:(bO p r i).pt=0
   ·rw[Nm ed,Np h3];simp
   rw[Np ⟨ed,h0⟩,Nm h3];simp[h0]
  rw[Nm (fun h=>h0 h.2)];by_cases h3:(bO p r i).pt=0
  ·rw[Np h3];simp
  rw[Nm h3];simp[h0]
 rw[Nm f]
 have key: ∀right,(∀e,e<(bO p r i).ends.length->right e ((bO p r i).ends.getD e ⟨0,0⟩)=(if i+1=r.A.length then decide ((r.X=0/\((bO p r i).ends.getD e ⟨0,0⟩).tt=0)\/(r.X≠0/\fF p (bO p r i).id e=r.X))else decide (((bO p r i).ends.getD e ⟨0,0⟩).tt=(aI r).getD (i+1) 0)))->eW p r i (fL p r i w)=lD p.S (fL p r i w) ((aI r).getD i 0) i right->
   match (match jL p r i w.j.en with | none=>none | some e=>some (⟨w.ins++[w.j.en],w.outs++[(e:Int)],(bO p r i).ends.getD e ⟨0,0⟩⟩:Rw))with
   | none=>(eW p r i (fL p r i w)).lost=true
   | some v=>eW p r i (fL p r i w)=fL p r (i+1) v:=by
  intro right k he;have:=z1u a b d hj k;rw[he];cases ho:jL p r i w.j.en with
  | none=>rw[ho]at this;exact this
  | some e=>rw[ho]at this;exact this
 by_cases H:i+1=r.A.length
 ·by_cases hx:r.X=0
  ·exact key rV (z1w a b H hx) (by unfold eW;rw[Np ⟨H,hx⟩])
  exact key _ (z1x a b H hx) (by unfold eW;rw[Nm (fun h=>hx h.2),Np H])
 exact key _ (z1y H) (by unfold eW;rw[Nm (fun h=>H h.1),Nm H,Nm ed])
def CV {p:Pl}(H:rP p r): ∀i,i<=(aI r).length->
  match iL p r i with
  | none=>(eM p r i).lost=true
  | some w=>eM p r i=fL p r i w
 | 0,_=>rfl
 | i+1,hi=>by
  have I:=CV H i ed;rw[iL];cases hp:iL p r i with
  | none=>
   rw[hp]at I;have I:(eM p r i).lost=true:=I;show(eW p r i (eM p r i)).lost=true;cases hq:(eW p r i (eM p r i)).lost with
   | true=>rfl
   | false=>
    have:=(kl p r i _ hq).1;rw[I]at this;cases this
  | some w=>
   rw[hp]at I;have I:eM p r i=fL p r i w:=I;have h1:=z1z H (i:=i) ed (CX p r i w hp);show match qE p r i w with | none=>(eW p r i (eM p r i)).lost=true | some v=>eW p r i (eM p r i)=fL p r (i+1) v
   rw[I];exact h1
def z11 {α:Type}{f:α->Int}{l:List α}(h:dE f l l){x y:α}(hx:x∈l) (H:y∈l) (e:f x=f y):x=y:=by
 obtain⟨i,a,rfl⟩:=No hx;obtain⟨j,hj,rfl⟩:=No H;rcases Fv i j with q | q | q
 ·have:=wP h hj q;omega
 ·subst q;rfl
 have:=wP h a q;omega
def z12 {l:List aF}(h:eR l l){x y:aF}(hx:x∈l) (a:y∈l) (e:x.id=y.id):x=y:=by
 obtain⟨i,H,rfl⟩:=No hx;obtain⟨j,hj,rfl⟩:=No a;rcases Fv i j with q | q | q
 ·have:=((h j hj hj).2 i q).1;omega
 ·subst q;rfl
 have:=((h i H H).2 j q).1;omega
def zR {p:Pl}(h:bX p):eR p.S p.S:=h.1.2.2.2.2.2.1
def VK {p:Pl}(h:bX p):pA p.S p.S:=h.1.2.2.2.2.2.2
def zC {p:Pl}(h:bX p):dE Sg.id p.G p.G:=h.2.1.2.1.1.1
def IY {p:Pl}(h:bX p):rD (dQ p.S p.S) p.G p.G:=h.2.1.2.1.2
def IX {p:Pl}(h:bX p):dE Pt.id p.P p.P:=h.2.1.1.1.1
def IW {p:Pl}(h:bX p):dE Rt.id p.R p.R:=h.2.1.2.2.1
def qD {p:Pl}(h:bX p){k:Nat}(H:k<p.R.length):iU (dQ p.S p.S) p.G p.P p.R[k]:=h.2.2 k H H
def CR {l:List aF}(h:nV (dQ l l) n):dX aF.id l n=true:=by
 obtain⟨h0,h1,h2⟩:=h;unfold dQ at h2;rw[Ph]at h2;cases hf:l.find? (fun s=>decide (s.id=(n.toNat:Int)))with
 | none=>rw[hf]at h2;simp at h2
 | some s=>
  have h3:=Gn hf;have h4:=Sx hf;unfold dX;rw[Tg];exact⟨s,h4,by simp at h3 ⊢;omega⟩
def VJ {l:List aF}(a:eR l l)(h:dX aF.id l n=true):nV (dQ l l) n:=by
 have h1:=qK (z:=lE) h;obtain⟨i,H,e⟩:=No h1.1;have h2:=(a i H H).1;have h3:l[i].id=n:=by rw[e];exact h1.2
 refine⟨ed,ed,?_⟩;rw[zU a H n.toNat ed];rcases h2.2.2 with h4 | h4<;>omega
def z13 {f:Nat->Int}{l:List Sg}(h:rD f l l){x y:Sg}(hx:x∈l) (a:y∈l) (e1:x.sec=y.sec) (e2:x.en=y.en):x=y:=by
 obtain⟨i,H,rfl⟩:=No hx;obtain⟨j,hj,rfl⟩:=No a;rcases Fv i j with q | q | q
 ·exact absurd ⟨e1,e2⟩ ((h j hj hj).2 i q)
 ·subst q;rfl
 exact absurd ⟨e1.symm,e2.symm⟩ ((h i H H).2 j q)
def VI {p:Pl}(h:bX p){s e:Int}{x:Sg}(hx:x∈p.G) (h1:x.sec=s) (h2:x.en=e):fF p s e=x.id:=by
 unfold fF;cases hf:p.G.find? (fun x=>decide (x.sec=s/\x.en=e))with
 | none=>
  have:=Fq.1 hf x hx;exact absurd (by simp[h1,h2]) this
 | some y=>
  have h3:=Gn hf;have h4:=Sx hf;simp only[Dr]at h3;have:=z13 (IY h) h4 hx ed ed;rw[this]
def IV {p:Pl}{s e:Int}(H:n≠0) (h:fF p s e=n): ∃x∈p.G,x.sec=s/\x.en=e/\x.id=n:=by
 unfold fF at h;cases hf:p.G.find? (fun x=>decide (x.sec=s/\x.en=e))with
 | none=>rw[hf]at h;exact absurd h.symm H
 | some y=>
  rw[hf]at h;have h3:=Gn hf;simp only[Dr]at h3;exact⟨y,Sx hf,h3.1,h3.2,h⟩
def wO {p:Pl}(h:bX p){k:Nat}(n:k<p.R.length):rP p p.R[k]:=by
 obtain⟨b,o,hF⟩:=qD h n
 have H: ∀i (a:i<(aI p.R[k]).length),dX aF.id p.S ((aI p.R[k]).getD i 0)=true:=fun i a=>by
  have e:(aI p.R[k]).getD i 0=(p.R[k].A++p.R[k].O)[i]'a:=by
   rw[Na,Nf a];rfl
  rw[e];exact CR (o i a a).1
 refine⟨fun i a=> ?_,fun i a e he h0=> ?_,b.2.2.2.1,fun hx s e=> ?_,fun hx=>b.2.2.1 hx⟩
 ·have h1:=qK (z:=lE) (H i a);obtain⟨j,hj,e⟩:=No h1.1;have h2:=(zR h j hj hj).1.2.2;exact⟨H i a,by unfold bO;rw[<-e];exact h2,h1.2⟩
 ·have h1:=qK (z:=lE) (H i a);obtain⟨j,hj,E⟩:=No h1.1;have c:bO p p.R[k] i=p.S[j]:=E.symm;have h2:=VK h j hj hj e (by rw[<-c];exact he);have h3:(bO p p.R[k] i).ends[e]=p.S[j].ends[e]'(by rw[<-c];exact he):=by simp[c]
  rw[h3]at h0 ⊢;rcases h2 with h2 | ⟨_,t,r,h4,_⟩
  ·exact h2.2
  obtain⟨m,f,e⟩:=No r;have h5:=(zR h m f f).1.1;rw[e]at h5;omega
 have h1:=(b.2.1 hx).1;have h2:=qK (z:=mI) h1;constructor
 ·intro h3;obtain⟨x,d,q,Q,q3⟩:=IV hx h3;have:x=iZ p p.R[k].X:=z11 (zC h) d h2.1 (by rw[q3];exact h2.2.symm);rw[<-this];exact⟨q.symm,Q.symm⟩
 rintro⟨q,Q⟩;rw[VI h h2.1 q.symm Q.symm];exact h2.2
def mH (p:Pl) (r:Rt) (w:Rw):List dV:=lP p r w.ins w.outs (aI r).length++r.fl.map fun f=>⟨f.pt,f.lie,-1⟩
def VH {p:Pl}(H:dE Pt.id p.P p.P) (hF:sJ p.P r.fl r.fl) (k:Wk): ∀i,i<=r.fl.length->(gO k r.fl i).asks=k.asks++(r.fl.take i).map fun f=>⟨f.pt,f.lie,-1⟩
 | 0,_=>by simp[gO]
 | i+1,hi=>by
  have hn:i<r.fl.length:=ed
  have a:r.fl.getD i ⟨0,0⟩=r.fl[i]:=Ek
  have h1:=hF i hn hn;have h2:=qK (z:=(⟨0,0⟩:Pt)) h1.1;obtain⟨j,hj,e⟩:=No h2.1;have h3:=(H j hj hj).1;have h4:p.P[j].id=r.fl[i].pt:=by rw[e];exact h2.2
  rw[gO,a];unfold kB;rw[Np ⟨ed,by rcases h1.2.2 with q | q<;>omega⟩];simp only;rw[VH H hF k i ed,Dc hn,Pr,Dk];rfl
def IU {p:Pl}(h:bX p){k:Nat}(a:k<p.R.length){w:Rw}(b:iM p p.R[k]=some w):(cP p p.R[k]).asks=mH p p.R[k] w:=by
 have h1:=CV (wO h a) (aI p.R[k]).length ep;have H:iL p p.R[k] (aI p.R[k]).length=some w:=b;rw[H]at h1;show(gO (kE p p.R[k]) p.R[k].fl p.R[k].fl.length).asks=_;rw[VH (IX h) (qD h a).2.2 _ _ ep,Ph];show(eM p p.R[k] (aI p.R[k]).length).asks++_=_;rw[h1];rfl
def VG {p:Pl}(h:bX p){k:Nat}(H:k<p.R.length):(kE p p.R[k]).lost=false↔(iM p p.R[k]).isSome=true:=by
 have h1:=CV (wO h H) (aI p.R[k]).length ep;unfold kE iM;cases hr:iL p p.R[k] (aI p.R[k]).length with
 | none=>rw[hr]at h1;rw[h1];simp
 | some w=>rw[hr]at h1;rw[h1];simp[fL]
def z14 {p:Pl}(h:bX p){k:Nat}(a:k<p.R.length){w:Rw}(b:iM p p.R[k]=some w):gK p p.R[k]=oA p.R[k] w.outs (aI p.R[k]).length:=by
 have h1:=CV (wO h a) (aI p.R[k]).length ep;have H:iL p p.R[k] (aI p.R[k]).length=some w:=b;rw[H]at h1;unfold gK kE;rw[h1];rfl
def VF {p:Pl}(b:rP p r): ∀i w,iL p r i=some w-> ∀j,j<i->j<r.A.length->0<=w.outs.getD j 0/\(j+1=r.A.length->r.X≠0->fF p ((aI r).getD j 0) (w.outs.getD j 0)=r.X)
 | 0,w,h,j,hj,_=>ed
 | i+1,w,h,j,hj,hp=>by
  have c:=oY r;rw[iL]at h;cases hq:iL p r i with
  | none=>rw[hq]at h;cases h
  | some v=>
   rw[hq]at h;have h:qE p r i v=some w:=h;obtain⟨l1,l2⟩:=CX p r i v hq;have I:=VF b i v hq;have old: ∀o:Int,j<i->(v.outs++[o]).getD j 0=v.outs.getD j 0:=fun o H=>by refine jd ?_;rw[Pd ed]
   unfold qE at h;split at h
   ·cases h
   split at h
   ·rename_i f
    cases h;by_cases H:j<i
    ·show 0<=(v.outs++[-1]).getD j 0/\(j+1=r.A.length->r.X≠0->fF p ((aI r).getD j 0) ((v.outs++[-1]).getD j 0)=r.X);rw[old _ H];exact I j H hp
    omega
   split at h
   ·cases h
   rename_i e d
   cases h;by_cases H:j<i
   ·refine Rq ?_;rw[old _ H];exact I j H hp
   have a:j=i:=ed;subst a;have G:(v.outs++[(e:Int)]).getD j 0=(e:Int):=(by rw[<-l2];exact zT _ _);refine Rq ?_;rw[G];refine⟨Hy e,fun q1 q2=> ?_⟩;have hok:=Gn d;unfold kZ at hok;rw[Dt,Np q1,Dr,Dr]at hok;rcases hok.2 with q | q
   ·exact absurd q.1 q2
   have:=(b.shaped j ed).2.2;rw[<-this];exact q.2
def XD (r:Rt) (outs:List Int): ∀i,(∀j,j<i->0<=outs.getD j 0)->oA r outs i=(List.range i).map fun j=>⟨(aI r).getD j 0,outs.getD j 0⟩
 | 0,_=>rfl
 | i+1,h=>by
  rw[oA,XD r outs i fun j hj=>h j ed,Np (h i ed),Hh,Pr];rfl
def XC (r:Rt) (outs:List Int): ∀i d,∃m,oA r outs (i+d)=oA r outs i++m
 | i,0=>⟨[],ee⟩
 | i,d+1=>by
  obtain⟨m,H⟩:=XC r outs i d;exact⟨m++(if 0<=outs.getD (i+d) 0 then [⟨(aI r).getD (i+d) 0,outs.getD (i+d) 0⟩]else []),by rw[<-Tz,oA,H,Dk]⟩
def sV (p:Pl) (r:Rt) (outs:List Int):Prop:= ∀i,i<r.A.length-> ¬(fF p (r.A.getD i 0) (outs.getD i 0)≠0/\i+1<r.A.length)/\ ¬(i+1=r.A.length/\fF p (r.A.getD i 0) (outs.getD i 0)≠r.X)
instance (p:Pl) (r:Rt) (outs:List Int):Decidable (sV p r outs):=by unfold sV;exact inferInstance
def XB {p:Pl}(h:bX p){k:Nat}(o:k<p.R.length){w:Rw}(r:iM p p.R[k]=some w):oC p p.R[k] (gK p p.R[k])↔sV p p.R[k] w.outs:=by
 have c:=oY p.R[k];have y:=wO h o;have u:=VF y _ w r
 have H: ∃m,gK p p.R[k]=((List.range p.R[k].A.length).map fun j=>(⟨(aI p.R[k]).getD j 0,w.outs.getD j 0⟩:Jn))++m:=by
  obtain⟨m,hR⟩:=XC p.R[k] w.outs p.R[k].A.length p.R[k].O.length;refine⟨m,?_⟩;rw[z14 h o r,c,hR,XD _ _ _ fun j hj=>(u j ed hj).1]
 obtain⟨m,hR⟩:=H;have v:p.R[k].A.length<=(gK p p.R[k]).length:=Eg
 have b: ∀i (hi:i<p.R[k].A.length),(gK p p.R[k])[i]' ed=⟨p.R[k].A.getD i 0,w.outs.getD i 0⟩:=fun i hi=>by
  have e:(gK p p.R[k])[i]? =some ⟨(aI p.R[k]).getD i 0,w.outs.getD i 0⟩:=by
   rw[hR,Pd Og];simp[hi]
  have a:(aI p.R[k]).getD i 0=p.R[k].A.getD i 0:=by
   unfold aI;refine jd ?_;rw[Pd hi]
  rw[Nf ed]at e;rw[<-a];exact Pq e
 have d: ∀i,i<p.R[k].A.length->p.R[k].A.getD i 0=(aI p.R[k]).getD i 0:=fun i hi=>by
  unfold aI;refine jd ?_;rw[Pd hi]
 unfold oC tH sV;constructor
 ·intro f i hi;have h1:=f i ed hi;rw[b i hi]at h1
  have h2: ∀x∈p.G,¬tB p.R[k] i ⟨p.R[k].A.getD i 0,w.outs.getD i 0⟩ x:=fun x hx=>by
   obtain⟨j,hj,rfl⟩:=No hx;exact h1 j hj hj
  constructor
  ·rintro⟨Q,q⟩;obtain⟨x,hx,e,a,E⟩:=IV Q rfl;exact h2 x hx ⟨e,a,.inl q⟩
  rintro⟨Q,q⟩;by_cases hx:p.R[k].X=0
  ·rw[hx]at q;obtain⟨x,n,e,a,E⟩:=IV q rfl;refine h2 x n ⟨e,a,.inr ?_⟩;rw[E,hx];exact q
  apply q;rw[d i hi];exact(u i ed hi).2 Q hx
 intro f i h1 hi j hj _;rw[b i hi];rintro⟨e,a,E⟩;have z:=VI h (Nn hj) e a;have h3:=(zC h j hj hj).1;obtain⟨C,c2⟩:=f i hi;rw[z]at C c2;rcases E with E | E
 ·exact C ⟨ed,E⟩
 by_cases hl:i+1<p.R[k].A.length
 ·exact C ⟨ed,hl⟩
 exact c2 ⟨ed,E⟩
def mO (p:Pl) (r:Rt):Prop:=match iM p r with | none=>False | some w=>nS (mH p r w)/\sV p r w.outs
instance (p:Pl) (r:Rt):Decidable (mO p r):=by unfold mO;split<;>exact inferInstance
def uL (p:Pl):bS p↔bX p/\ ∀k (h:k<p.R.length),mO p p.R[k]:=by
 constructor
 ·rintro⟨h1,h2,h3⟩;refine⟨h1,fun k H=> ?_⟩;have h4:=(VG h1 H).1 (h2 k H H);obtain⟨w,c⟩:=Option.isSome_iff_exists.1 h4;have h5:=h3 k H H;unfold mO;rw[c];exact⟨by rw[<-IU h1 H c];exact h5.1,(XB h1 H c).1 h5.2⟩
 rintro⟨h1,h2⟩
 have key: ∀k (H:k<p.R.length),∃w,iM p p.R[k]=some w/\nS (mH p p.R[k] w)/\sV p p.R[k] w.outs:=fun k H=>by
  have h3:=h2 k H;unfold mO at h3;cases hr:iM p p.R[k]with
  | none=>rw[hr]at h3;exact h3.elim
  | some w=>rw[hr]at h3;exact⟨w,rfl,h3⟩
 refine⟨h1,fun k H _=> ?_,fun k H _=> ?_⟩
 ·obtain⟨w,c,_⟩:=key k H;exact(VG h1 H).2 (by rw[c];rfl)
 obtain⟨w,c,a,b⟩:=key k H;exact⟨by rw[IU h1 H c];exact a,(XB h1 H c).2 b⟩
def iR (j:Jn):List Int:=[j.tt,j.en]
def eX (s:aF):List Int:=s.id::s.pt::s.ends.flatMap iR
def dN (x:Pt):List Int:=[x.id,x.sec]
def fM (x:Sg):List Int:=[x.id,x.sec,x.en]
def kC (x:Fl):List Int:=[x.pt,x.lie]
def dJ (x:Int):List Int:=[x]
def cE {α:Type}(f:α->List Int) (l:List α):List Int:=(l:Int)::l.flatMap f
def fT (r:Rt):List Int:=r.id::r.E::r.X::(cE dJ r.A++(cE dJ r.O++(cE kC r.fl++[r.T])))
def gJ (p:Pl):List Int:=p.ver::p.par::(cE eX p.S++(cE dN p.P++(cE fM p.G++cE fT p.R)))
def bI (ns:List Int):List Nat:=ns.flatMap fun n=>cD n.toNat
def dP (p:Pl):List Nat:=bI (gJ p)
def eO (n:Int):Prop:=0<=n/\n<=2147483647
abbrev RS:=Nat × Bool
def nx (l:List Nat) (s:RS):Int × RS:=if s.2=true\/(fN l s.1).2.2≠0 then(-1,(s.1,true))else((fN l s.1).1,((fN l s.1).2.1,false))
def iI {α:Type}(one:RS->α × RS):Nat->RS->List α × RS
 | 0,s=>([],s)
 | k+1,s=>let a:=one s;let b:=iI one k a.2;(a.1::b.1,b.2)
def aW {α:Type}(l:List Nat) (one:RS->α × RS) (s:RS):List α × RS:=let n:=nx l s;if n.1<=99 then iI one n.1.toNat n.2 else([],n.2)
def sF (l:List Nat) (s:RS):Jn × RS:=let a:=nx l s;let b:=nx l a.2;(⟨a.1,b.1⟩,b.2)
def vG (l:List Nat) (s:RS):Fl × RS:=let a:=nx l s;let b:=nx l a.2;(⟨a.1,b.1⟩,b.2)
def vF (l:List Nat) (s:RS):Pt × RS:=let a:=nx l s;let b:=nx l a.2;(⟨a.1,b.1⟩,b.2)
def pD (l:List Nat) (s:RS):Sg × RS:=let a:=nx l s;let b:=nx l a.2;let c:=nx l b.2;(⟨a.1,b.1,c.1⟩,c.2)
def cG (l:List Nat) (s:RS):aF × RS:=
 let a:=nx l s;let b:=nx l a.2;let c:=sF l b.2;let d:=sF l c.2
 if 0<b.1 then let e:=sF l d.2;(⟨a.1,b.1,[c.1,d.1,e.1]⟩,e.2)else(⟨a.1,b.1,[c.1,d.1]⟩,d.2)
def eS (l:List Nat) (s:RS):Rt × RS:=
 let a:=nx l s;let b:=nx l a.2;let c:=nx l b.2;let d:=aW l (nx l) c.2;let e:=aW l (nx l) d.2;let f:=aW l (vG l) e.2;let t:=nx l f.2
 (⟨a.1,b.1,c.1,d.1,e.1,f.1,t.1⟩,t.2)
def wY (l:List Nat) (s:RS):Pl × RS:=
 let a:=nx l s;let b:=nx l a.2;let c:=aW l (cG l) b.2;let d:=aW l (vF l) c.2;let e:=aW l (pD l) d.2;let f:=aW l (eS l) e.2
 (⟨a.1,b.1,c.1,d.1,e.1,f.1⟩,f.2)
def uK (l:List Nat) (p:Nat) (ns:List Int):Prop:= ∃pre,l=pre++bI ns/\p=pre.length
def lJ {l:List Nat}{p:Nat}{n:Int}{a:List Int}(h:uK l p (n::a)) (hp:eO n): ∃q,nx l (p,false)=(n,(q,false))/\uK l q a:=by
 obtain⟨pre,rfl,rfl⟩:=h;have e:pre++bI (n::a)=pre++(cD n.toNat++bI a):=rfl;refine⟨pre.length+(cD n.toNat).length,?_,pre++cD n.toNat,by rw[e,Dk],ee⟩;have:=ku pre (bI a) n.toNat XS;rw[nx,e,this];have h0:=hp.1;simp;omega
def qC {α:Type}(l:List Nat) (one:RS->α × RS) (x:α) (ws:List Int):Prop:= ∀p ns,uK l p (ws++ns)-> ∃q,one (p,false)=(x,(q,false))/\uK l q ns
def XA {l:List Nat}(h:eO n):qC l (nx l) n [n]:=fun _ _ H=>lJ H h
def WW {α:Type}{l:List Nat}{one:RS->α × RS}{w:α->List Int}: ∀ {xs:List α},(∀x∈xs,qC l one x (w x))->qC l (iI one xs) xs (xs.flatMap w)
 | [],_=>fun p n H=>⟨p,rfl,H⟩
 | x::xs,h=>fun p n H=>by
  rw[Sb,Dk]at H;obtain⟨q,h1,h2⟩:=h x ee p _ H;obtain⟨r,h3,h4⟩:=WW (fun y hz=>h y Qh) q _ h2;exact⟨r,by simp only[Du,iI,h1,h3],h4⟩
def uJ {α:Type}{l:List Nat}{one:RS->α × RS}{w:α->List Int}{xs:List α}(hl:xs.length<=99) (h: ∀x∈xs,qC l one x (w x)):qC l (aW l one) xs (cE w xs):=fun p n H=>by
 obtain⟨q,h1,h2⟩:=lJ H (by constructor<;>omega);obtain⟨r,h3,h4⟩:=WW h q _ h2;exact⟨r,by simp only[aW,h1,Np (show((xs:Nat):Int)<=99 by omega),Sc,h3],h4⟩
def yZ {l:List Nat}{j:Jn}(h: ∀n∈iR j,eO n):qC l (sF l) j (iR j):=fun p a H=>by
 obtain⟨q,h1,h2⟩:=lJ H (h _ (by simp[iR]));obtain⟨r,h3,h4⟩:=lJ h2 (h _ (by simp[iR]));exact⟨r,by simp only[sF,h1,h3],h4⟩
def z15 {l:List Nat}{j:Fl}(h: ∀n∈kC j,eO n):qC l (vG l) j (kC j):=fun p a H=>by
 obtain⟨q,h1,h2⟩:=lJ H (h _ (by simp[kC]));obtain⟨r,h3,h4⟩:=lJ h2 (h _ (by simp[kC]));exact⟨r,by simp only[vG,h1,h3],h4⟩
def z16 {l:List Nat}{j:Pt}(h: ∀n∈dN j,eO n):qC l (vF l) j (dN j):=fun p a H=>by
 obtain⟨q,h1,h2⟩:=lJ H (h _ (by simp[dN]));obtain⟨r,h3,h4⟩:=lJ h2 (h _ (by simp[dN]));exact⟨r,by simp only[vF,h1,h3],h4⟩
def z17 {l:List Nat}{j:Sg}(h: ∀n∈fM j,eO n):qC l (pD l) j (fM j):=fun p a H=>by
 obtain⟨q,h1,h2⟩:=lJ H (h _ (by simp[fM]));obtain⟨r,h3,h4⟩:=lJ h2 (h _ (by simp[fM]));obtain⟨t,h5,h6⟩:=lJ h4 (h _ (by simp[fM]));exact⟨t,by simp only[pD,h1,h3,h5],h6⟩
def z18 {l:List Nat}{s:aF}(e:s.Shaped) (h: ∀n∈eX s,eO n):qC l (cG l) s (eX s):=fun p i d=>by
 obtain⟨id,pt,ends⟩:=s;obtain⟨q,h1,h2⟩:=lJ d (h _ (by simp[eX]));obtain⟨r,h3,h4⟩:=lJ h2 (h _ (by simp[eX]));have hj:=fun j hj n f=>h n (by simp only[eX,Dv,Su];exact .inr (.inr ⟨j,hj,f⟩));rcases e with⟨h0,h5⟩ | ⟨h0,-,h5⟩
 ·match ends,h5,hj,h4 with
  | [a,b],_,hj,h4=>
   obtain⟨t,h6,h7⟩:=yZ (hj a ee) r _ h4;obtain⟨u,h8,h9⟩:=yZ (hj b ee) t _ h7;refine⟨u,?_,h9⟩;have H: ¬0<pt:=(by have:pt=0:=h0;omega);simp only[cG,h1,h3,h6,h8,Nm H]
 match ends,h5,hj,h4 with
 | [a,b,c],_,hj,h4=>
  obtain⟨t,h6,h7⟩:=yZ (hj a ee) r _ h4;obtain⟨u,h8,h9⟩:=yZ (hj b ee) t _ h7;obtain⟨v,h10,h11⟩:=yZ (hj c ee) u _ h9;refine⟨v,?_,h11⟩;have H:0<pt:=(by have:1<=pt:=h0;omega);simp only[cG,h1,h3,h6,h8,h10,Np H]
def WV (r:Rt):Prop:=r.A.length<=99/\r.O.length<=99/\r.fl.length<=99
def z19 {l:List Nat}(H:WV r) (h: ∀n∈fT r,eO n):qC l (eS l) r (fT r):=fun p c a=>by
 simp only[fT,Nz,Dk]at a;simp only[fT,Dv,Tx]at h;obtain⟨q,h1,h2⟩:=lJ a (h _ (.inl rfl));obtain⟨q2,h3,h4⟩:=lJ h2 (h _ (.inr (.inl rfl)));obtain⟨q3,h5,h6⟩:=lJ h4 (h _ (.inr (.inr (.inl rfl))));obtain⟨q4,h7,h8⟩:=uJ (w:=dJ) H.1 (fun x hx=>XA (h x (.inr (.inr (.inr (.inl (.tail _ (Su.2 ⟨x,hx,.head _⟩)))))))) q3 _ h6;obtain⟨q5,h9,h10⟩:=uJ (w:=dJ) H.2.1 (fun x hx=>XA (h x (.inr (.inr (.inr (.inr (.inl (.tail _ (Su.2 ⟨x,hx,.head _⟩))))))))) q4 _ h8;obtain⟨q6,h11,h12⟩:=uJ (w:=kC) H.2.2 (fun x hx=>z15 (fun n b=>h n (.inr (.inr (.inr (.inr (.inr (.inl (.tail _ (Su.2 ⟨x,hx,b⟩))))))))))  q5 _ h10;obtain⟨q7,h13,h14⟩:=lJ h12 (h _ (.inr (.inr (.inr (.inr (.inr (.inr (.inl rfl))))))));exact⟨q7,by simp only[eS,h1,h3,h5,h7,h9,h11,h13],h14⟩
structure IT (p:Pl):Prop where
 num: ∀n∈gJ p,eO n
 S:p.S.length<=99
 shaped: ∀s∈p.S,s.Shaped
 P:p.P.length<=99
 G:p.G.length<=99
 R:p.R.length<=99
 few: ∀r∈p.R,WV r
def z2a {p:Pl}(h:IT p):wY (dP p) (0,false)=(p,((dP p).length,false)):=by
 have b:uK (dP p) 0 (gJ p++[]):=⟨[],by rw[Sh];rfl,rfl⟩;have H:=h.num;simp only[gJ,Nz,Dk]at b;simp only[gJ,Dv,Tx]at H;obtain⟨q,h1,h2⟩:=lJ b (H _ (.inl rfl));obtain⟨q2,h3,h4⟩:=lJ h2 (H _ (.inr (.inl rfl)));obtain⟨q3,h5,h6⟩:=uJ (w:=eX) h.S (fun x hx=>z18 (h.shaped x hx) (fun n a=>H n (.inr (.inr (.inl (.tail _ (Su.2 ⟨x,hx,a⟩))))))) q2 _ h4;obtain⟨q4,h7,h8⟩:=uJ (w:=dN) h.P (fun x hx=>z16 (fun n a=>H n (.inr (.inr (.inr (.inl (.tail _ (Su.2 ⟨x,hx,a⟩)))))))) q3 _ h6;obtain⟨q5,h9,h10⟩:=uJ (w:=fM) h.G (fun x hx=>z17 (fun n a=>H n (.inr (.inr (.inr (.inr (.inl (.tail _ (Su.2 ⟨x,hx,a⟩))))))))) q4 _ h8;obtain⟨q6,h11,h12⟩:=uJ (w:=fT) h.R (fun x hx=>z19 (h.few x hx) (fun n a=>H n (.inr (.inr (.inr (.inr (.inr (.tail _ (Su.2 ⟨x,hx,a⟩))))))))) q5 _ h10;obtain⟨pre,e,rfl⟩:=h12;have:dP p=pre:=by rw[e];simp[bI]
 rw[wY];simp only[h1,h3,h5,h7,h9,h11,<-this]
abbrev num (L:List Int) (i:Nat):Int:=L.getD i 0
def mM (L:List Int) (p:Nat) (n:Int):List Int:=(L.drop p).take n.toNat
def eF {α:Type}(len:Nat) (one:Nat->α × Nat):Nat->Nat->List α × Nat
 | 0,p=>([],p)
 | k+1,p=>if p<len then let a:=one p;let b:=eF len one k a.2;(a.1::b.1,b.2)else([],p)
def sG (L:List Int) (p:Nat):Jn:=⟨num L p,num L (p+1)⟩
def pM (L:List Int) (p:Nat):aF × Nat:=if 0<num L (p+1)then(⟨num L p,num L (p+1),[sG L (p+2),sG L (p+4),sG L (p+6)]⟩,p+8)else(⟨num L p,num L (p+1),[sG L (p+2),sG L (p+4)]⟩,p+6)
def tR (L:List Int) (p:Nat):Pt × Nat:=(⟨num L p,num L (p+1)⟩,p+2)
def tQ (L:List Int) (p:Nat):Sg × Nat:=(⟨num L p,num L (p+1),num L (p+2)⟩,p+3)
def lF (L:List Int) (p:Nat):Fl × Nat:=(⟨num L p,num L (p+1)⟩,p+2)
def nO {α:Type}(L:List Int) (one:Nat->α × Nat) (p:Nat):List α × Nat:=eF L one (num L p).toNat (p+1)
def lX (L:List Int) (p:Nat):Rt × Nat:=
 let a:=mM L (p+4) (num L (p+3));let q:=p+4+a.length
 let b:=mM L (q+1) (num L q);let r:=q+1+b.length
 let c:=nO L (lF L) r
 (⟨num L p,num L (p+1),num L (p+2),a,b,c.1,num L c.2⟩,c.2+1)
def EN (L:List Int):Pl:=
 let a:=nO L (pM L) 2;let b:=nO L (tR L) a.2;let c:=nO L (tQ L) b.2;let d:=nO L (lX L) c.2
 ⟨num L 0,num L 1,a.1,b.1,c.1,d.1⟩
def qB (L:List Int) (p:Nat) (ns:List Int):Prop:= ∃pre,L=pre++ns/\p=pre.length
def kV {L:List Int}{p:Nat}{n:Int}{a:List Int}(h:qB L p (n::a)):num L p=n/\qB L (p+1) a:=by
 obtain⟨pre,rfl,rfl⟩:=h;exact⟨by simp[num,Na],pre++[n],ee,ee⟩
def WU {L:List Int}{p:Nat}{a n:List Int}(h:qB L p (a++n)):qB L (p+a.length) n:=by
 obtain⟨pre,rfl,rfl⟩:=h;exact⟨pre++a,ee,ee⟩
def WS {L:List Int}{p:Nat}{a n:List Int}(h:qB L p (a++n)):mM L p (a:Nat)=a:=by
 obtain⟨pre,rfl,rfl⟩:=h;simp[mM]
def rO {α:Type}(L:List Int) (one:Nat->α × Nat) (x:α) (ws:List Int):Prop:= ∀p ns,qB L p (ws++ns)-> ∃q,one p=(x,q)/\qB L q ns
def z2b {L:List Int}{p:Nat}{n:List Int}(h:qB L p n) (H:n≠[]):p<L.length:=by
 obtain⟨pre,rfl,rfl⟩:=h;have:=List.length_pos_iff.2 H;rw[Mx];omega
def WR {α:Type}{L:List Int}{one:Nat->α × Nat}{w:α->List Int}: ∀ {xs:List α},(∀x∈xs,rO L one x (w x)/\w x≠[])->rO L (eF L one xs) xs (xs.flatMap w)
 | [],_=>fun p n H=>⟨p,rfl,H⟩
 | x::xs,h=>fun p n H=>by
  have a:=z2b H (by simp[(h x ee).2]);rw[Sb,Dk]at H;obtain⟨q,h1,h2⟩:=(h x ee).1 p _ H;obtain⟨r,h3,h4⟩:=WR (fun y hz=>h y Qh) q _ h2;exact⟨r,by simp only[Du,eF,Np a,h1,h3],h4⟩
def yY {α:Type}{L:List Int}{one:Nat->α × Nat}{w:α->List Int}{xs:List α}(h: ∀x∈xs,rO L one x (w x)/\w x≠[]):rO L (nO L one) xs (cE w xs):=fun p n H=>by
 obtain⟨h1,h2⟩:=kV H;obtain⟨r,h3,h4⟩:=WR h _ _ h2;exact⟨r,by rw[nO,h1,Sc,h3],h4⟩
def z2c {L:List Int}(x:Fl):rO L (lF L) x (kC x):=fun p n hs=>by
 refine Xa fun h1 _ h3 h4=>?_;exact⟨_,by rw[lF,h1,h3],h4⟩
def z2d {L:List Int}(x:Pt):rO L (tR L) x (dN x):=fun p n hs=>by
 refine Xa fun h1 _ h3 h4=>?_;exact⟨_,by rw[tR,h1,h3],h4⟩
def z2e {L:List Int}(x:Sg):rO L (tQ L) x (fM x):=fun p n hs=>by
 refine Xa fun h1 _ h3 h4=>?_;obtain⟨h5,h6⟩:=kV h4;exact⟨_,by rw[tQ,h1,h3,h5],h6⟩
def yX {L:List Int}{p:Nat}{j:Jn}{n:List Int}(h:qB L p (iR j++n)):sG L p=j/\qB L (p+2) n:=by
 obtain⟨h1,h2⟩:=kV h;obtain⟨h3,h4⟩:=kV h2;exact⟨by rw[sG,h1,h3],h4⟩
def z2f {L:List Int}{s:aF}(d:s.Shaped):rO L (pM L) s (eX s):=fun p n hs=>by
 obtain⟨id,pt,ends⟩:=s;refine Xa fun h1 _ h3 h4=>?_;rcases d with⟨h0,h5⟩ | ⟨h0,-,h5⟩
 ·match ends,h5,h4 with
  | [a,b],_,h4=>
   obtain⟨h6,h7⟩:=yX (j:=a) h4;obtain⟨h8,h9⟩:=yX (j:=b) h7;have H: ¬0<pt:=(by have:pt=0:=h0;omega);exact⟨_,by rw[pM,h3,Nm H,h1,h6,h8],h9⟩
 match ends,h5,h4 with
 | [a,b,c],_,h4=>
  obtain⟨h6,h7⟩:=yX (j:=a) h4;obtain⟨h8,h9⟩:=yX (j:=b) h7;obtain⟨h10,h11⟩:=yX (j:=c) h9;have H:0<pt:=(by have:1<=pt:=h0;omega);exact⟨_,by rw[pM,h3,Np H,h1,h6,h8,h10],h11⟩
def IS (l:List Int):l.flatMap dJ=l:=by rw[show dJ=fun x=>[id x]from rfl,<-Td,List.map_id]
def z2g {L:List Int}(r:Rt):rO L (lX L) r (fT r):=fun p n hs=>by
 simp only[fT,cE,IS,Nz,Dk]at hs;refine Xa fun h1 _ h3 h4=>?_;obtain⟨h5,h6⟩:=kV h4;obtain⟨h7,h8⟩:=kV h6;have h9:=WS h8;obtain⟨h10,h11⟩:=kV (WU h8);have h12:=WS h11;obtain⟨q,h13,h14⟩:=yY (one:=lF L) (w:=kC) (xs:=r.fl) (fun x _=>⟨z2c x,by simp[kC]⟩) _ ([r.T]++n) (WU h11);obtain⟨h15,h16⟩:=kV h14;refine⟨q+1,?_,h16⟩;rw[lX];simp only[h1,h3,h5,h7,h9,h10,h12,h13,h15]
def z2h {p:Pl}(h: ∀s∈p.S,s.Shaped):EN (gJ p)=p:=by
 have hs:qB (gJ p) 0 (gJ p++[]):=⟨[],by rw[Sh];rfl,rfl⟩;rw[gJ]at hs;simp only[Nz,Dk]at hs;have e:gJ p=p.ver::p.par::(cE eX p.S++(cE dN p.P++(cE fM p.G++cE fT p.R))):=rfl;rw[<-e]at hs;generalize H:gJ p=L at *;refine Xa fun h1 _ h3 h4=>?_;obtain⟨q3,h5,h6⟩:=yY (one:=pM L) (w:=eX) (fun x hx=>⟨z2f (h x hx),by simp[eX]⟩) _ _ h4;obtain⟨q4,h7,h8⟩:=yY (one:=tR L) (w:=dN) (fun x _=>⟨z2d x,by simp[dN]⟩) _ _ h6;obtain⟨q5,h9,h10⟩:=yY (one:=tQ L) (w:=fM) (fun x _=>⟨z2e x,by simp[fM]⟩) _ _ h8;obtain⟨q6,h11,h12⟩:=yY (one:=lX L) (w:=fT) (fun x _=>⟨z2g x,by simp[fT]⟩) _ _ h10;rw[EN];simp only[h1,h3,h5,h7,h9,h11]
def jK (h:0<=n/\n<=99):eO n:=⟨h.1,ed⟩
def z2i {s:aF}(h:s.Shaped):0<=s.pt/\s.pt<=99:=by rcases h with⟨h,-⟩ | ⟨h1,h2,-⟩<;>constructor<;>omega
def z2j {s:aF}(h:s.Shaped):s.ends.length<=3:=by rcases h with⟨-,h⟩ | ⟨-,-,h⟩<;>omega
def CQ {α:Type}{f:α->Int}{l:List α}(h:dE f l l){x:α}(hx:x∈l):0<=f x/\f x<=99:=by
 obtain⟨i,H,rfl⟩:=No hx;have:=(h i H H).1;omega
def IR {α:Type}{f:α->Int}{l:List α}(h:dE f l l)(H:dX f l n=true):0<=n/\n<=99:=by
 cases l with
 | nil=>cases H
 | cons z l=>obtain⟨h1,h2⟩:=qK (z:=z) H;rw[<-h2];exact CQ h h1
def wN {p:Pl}(h:bX p):IT p:=by
 have c: ∀s∈p.S,(0<=s.id/\s.id<=99)/\s.Shaped:=fun s a=>by
  obtain⟨i,b,rfl⟩:=No a;have:=(zR h i b b).1;exact⟨⟨ed,this.2.1⟩,this.2.2⟩
 have d: ∀s∈p.S,∀j∈s.ends,(0<=j.tt/\j.tt<=99)/\0<=j.en/\j.en<=99:=fun s a j hj=>by
  obtain⟨i,b,rfl⟩:=No a;obtain⟨e,he,rfl⟩:=No hj;rcases VK h i b b e he with⟨h1,h2⟩ | ⟨-,t,G,h1,h2,h3⟩
  ·omega
  have h4:=(c t G).1;have h5:=z2j (c t G).2;have h6:=(List.getElem?_eq_some_iff.1 h3).1;omega
 have q: ∀r∈p.R,iU (dQ p.S p.S) p.G p.P r:=fun r o=>by
  obtain⟨k,I,rfl⟩:=No o;exact qD h I
 have u: ∀r∈p.R,∀n∈r.A++r.O,0<=n/\n<=99:=fun r o n H=>by
  obtain⟨i,b,rfl⟩:=No H;have:=((q r o).2.1 i b b).1;exact⟨this.1,this.2.1⟩
 obtain⟨J,w,y,K,z⟩:=h.1;have L:=z.1;have M:=h.2.1.1.1.2;have O:=h.2.1.2.1.1.2;have P:=h.2.1.2.2.2;refine⟨fun n H=> ?_,ed,fun s a=>(c s a).2,ed,ed,ed,fun r o=> ?_⟩
 ·simp only[gJ,cE,Dv,Tx,Su]at H;rcases H with rfl | rfl | (rfl | ⟨s,a,H⟩) | (rfl | ⟨x,hx,H⟩) | (rfl | ⟨x,hx,H⟩) | rfl | ⟨r,o,H⟩
  ·exact⟨ed,w⟩
  ·exact⟨y,ed⟩
  ·exact jK ed
  ·simp only[eX,Dv,Su]at H;rcases H with rfl | rfl | ⟨j,hj,H⟩
   ·exact jK (c s a).1
   ·exact jK (z2i (c s a).2)
   simp only[iR,Dv,Pf,Ta]at H;rcases H with rfl | rfl
   ·exact jK (d s a j hj).1
   exact jK (d s a j hj).2
  ·exact jK ed
  ·simp only[dN,Dv,Pf,Ta]at H;rcases H with rfl | rfl
   ·exact jK (CQ (IX h) hx)
   obtain⟨i,b,rfl⟩:=No hx;obtain⟨s,a,h1,-⟩:=h.2.1.1.2.2 i b;rw[<-h1];exact jK (c s a).1
  ·exact jK ed
  ·simp only[fM,Dv,Pf,Ta]at H;obtain⟨i,b,rfl⟩:=No hx;have a:=(IY h i b b).1;have h3:=WI (zR h) (p.G[i].sec).toNat;rcases H with rfl | rfl | rfl
   ·exact jK (CQ (zC h) hx)
   ·exact jK ⟨a.1.1,a.1.2.1⟩
   exact jK ⟨a.2.1,by have:=a.2.2;omega⟩
  ·exact jK ed
  have v:=q r o;obtain⟨A,C,-,Q,D,E,F,R,T⟩:=v.1;simp only[fT,cE,IS,Dv,Tx,Su,Pf,Ta]at H;rcases H with rfl | rfl | rfl | (rfl | H) | (rfl | H) | (rfl | ⟨f,U,H⟩) | rfl
  ·exact jK (CQ (IW h) o)
  ·exact jK (IR (zC h) A)
  ·by_cases h0:r.X=0
   ·rw[h0];exact jK eh
   exact jK (IR (zC h) (C h0).1)
  ·exact jK ed
  ·exact jK (u r o n (Tx.2 (.inl H)))
  ·exact jK ed
  ·exact jK (u r o n (Tx.2 (.inr H)))
  ·exact jK ed
  ·obtain⟨i,b,rfl⟩:=No U;have h9:=v.2.2 i b b;simp only[kC,Dv,Pf,Ta]at H;rcases H with rfl | rfl
   ·exact jK (IR (IX h) h9.1)
   exact jK (by have:=h9.2.2;omega)
  exact jK ed
 have v:=(q r o).1;obtain⟨-,-,-,-,D,E,F,-⟩:=v;exact⟨ed,ed,ed⟩
open Go.RowKit Tryz
def pT (x:Tk):List Value:=[jV x.id,.int .u8 x.is]
def pU (x:Sw):List Value:=[jV x.id,jV x.lie,jV x.call]
def pW (x:Lk):List Value:=[jV x.id,.int .u8 x.ph,jV x.gone,jV x.left]
def WP:(prog.info? 106).map (fun i=>(i.zero,i.size,i.bytes))=some (some (.agg #[jV 0,.int .u8 0]),2,16):=by kernel_rfl
def UQ:(prog.info? 108).map (fun i=>(i.zero,i.size,i.bytes))=some (some (.agg #[jV 0,jV 0,jV 0]),3,24):=by kernel_rfl
def UP:(prog.info? 99).map (fun i=>(i.zero,i.size,i.bytes))=some (some (.agg #[jV 0,.int .u8 0,jV 0,jV 0]),4,32):=by kernel_rfl
def tq (x:Tk): ∀u∈pT x,u.oneCell'=true:=by
 intro u H;simp only[pT,Dv,Pf,Ta]at H;rcases H with rfl | rfl<;>rfl
def tp (x:Sw): ∀u∈pU x,u.oneCell'=true:=by
 intro u H;simp only[pU,Dv,Pf,Ta]at H;rcases H with rfl | rfl | rfl<;>rfl
def th (x:Lk): ∀u∈pW x,u.oneCell'=true:=by
 intro u H;simp only[pW,Dv,Pf,Ta]at H;rcases H with rfl | rfl | rfl | rfl<;>rfl
structure bH (W:World) (N:Nat) (t s l:Value) (x:St):Prop where
 tks:W.ownsRow N 106 2 t x.tks (x.tks.flatMap pT)
 sws:W.ownsRow N 108 3 s x.sws (x.sws.flatMap pU)
 lks:W.ownsRow N 99 4 l x.lks (x.lks.flatMap pW)
section
variable {W W':World}{N:Nat}{t s l:Value}{x:St}
def bH.stM (h:bH W N t s l x):fU W t s l x:=
 ⟨kK (f:=pT) h.tks (fun _ _=>rfl) (fun _ _=>rfl),kK (f:=pU) h.sws (fun _ _=>rfl) (fun _ _=>rfl),kK (f:=pW) h.lks (fun _ _=>rfl) (fun _ _=>rfl)⟩
def bH.below (h:bH W N t s l x) (H:jb W W'):bH W' N t s l x:=⟨bU h.tks H,bU h.sws H,bU h.lks H⟩
def bH.setCell (h:bH W N t s l x){a:Addr}(H:a.block<N) (v:Value):bH (W.setCell a v) N t s l x:=⟨aV h.tks H v,aV h.sws H v,aV h.lks H v⟩
def bH.base (h:bH W N t s l x){n:Nat}(H:n<=N):bH W n t s l x:=⟨bW h.tks H,bW h.sws H,bW h.lks H⟩
def bH.nil (W:World) (N:Nat):bH W N (jN) (jN) (jN) ⟨[],[],[]⟩:=⟨Nw _ _ _ _,Nw _ _ _ _,Nw _ _ _ _⟩
def bH.tk (h:bH W N t s l x) (y:Tk)(ho:W'.ownsRow N 106 2 T (x.tks.length+1) (x.tks.flatMap pT++pT y)) (H:W.grownBy W' t.ownBlock):bH W' N T s l ⟨x.tks++[y],x.sws,x.lks⟩:=
 ⟨Ye,h.sws.kept H (rT h.sws h.tks eh),h.lks.kept H (rT h.lks h.tks eh)⟩
def bH.sw (h:bH W N t s l x) (y:Sw){a:Value}(ho:W'.ownsRow N 108 3 a (x.sws.length+1) (x.sws.flatMap pU++pU y)) (H:W.grownBy W' s.ownBlock):bH W' N t a l ⟨x.tks,x.sws++[y],x.lks⟩:=
 ⟨h.tks.kept H (rT h.tks h.sws eh),Ye,h.lks.kept H (rT h.lks h.sws eh)⟩
def bH.lk (h:bH W N t s l x) (y:Lk){L:Value}(ho:W'.ownsRow N 99 4 L (x.lks.length+1) (x.lks.flatMap pW++pW y)) (H:W.grownBy W' l.ownBlock):bH W' N t s L ⟨x.tks,x.sws,x.lks++[y]⟩:=
 ⟨h.tks.kept H (rT h.tks h.lks eh),h.sws.kept H (rT h.sws h.lks eh),Ye⟩
end
structure yF (B:World) (N bp g:Nat) (pc:Array Value) (t s l:Value) (x:St) (W:World):Prop where
 bel:jb B W
 pl:jk W bp pc 28
 blk:jk W g #[t,s,l] 33
 own:bH W N t s l x
section
variable {B W W':World}{N bp g:Nat}{pc:Array Value}{t s l:Value}{x:St}
def yF.below (h:yF B N bp g pc t s l x W) (H:jb W W'):yF B N bp g pc t s l x W':=
 ⟨jt h.bel H,(jm H h.pl),(jm H h.blk),h.own.below H⟩
def yF.grow (h:yF B N bp g pc t s l x W) (j:B.heap.size<=g) (p:bp<g) (b:g<N){n:Nat}{v:Value}{xs:List Value}(d:W.ownsRow N e sz v n xs) (H:W.grownBy W' v.ownBlock){o:Nat}{u a L:Value}{X:St}(q:(#[t,s,l]:Array Value).setIfInBounds o u=#[T,a,L]) (r:bH W' N T a L X):yF B N bp g pc T a L X (W'.setCell ⟨g,o,none⟩ u):=by
 have f: ∀k,k<N->some k≠v.ownBlock:=fun k w e=>by
  obtain⟨c,_,i⟩:=fD d e.symm;omega
 have i:=h.bel.trans (dT d ed h.bel.size H);have htA:=(H.block _ (aD h.blk) (f g b)).trans h.blk;refine⟨i.setCell j _,(Ny _ _ _ bp (by show bp≠g;omega)).trans ((H.block _ (aD h.pl) (f bp ed)).trans h.pl),?_,r.setCell b u⟩;rw[<-q];exact Xp
end
def mq {α:Type}{w:World}{R:World->List Value->α->Prop}{b:Nat}{l:List α}{f:α->List Value}(h:aB w sz R (some ⟨b,off,none⟩) cap l) (d: ∀x∈l,(f x).length=sz) (i: ∀v x,R w v x->v=f x) (hz:0<sz):
  ∀j u,(l.flatMap f)[j]? =some u->jc w b (off+j) u:=by
 intro j u hj;have H:=pC f sz l d;have hjl:j<l.length * sz:=by rw[<-H];exact(List.getElem?_eq_some_iff.1 hj).1
 refine Ya fun g hr a=>?_;rw[<-a,rB f sz l (j / sz) (j % sz) g d hr]at hj;obtain⟨B,o,v,e,hl,k,c⟩:=h.at_ (j / sz) g;cases e;obtain rfl:=i v _ c;have h1:=k (j % sz) Up;rw[Nf Up]at hj;rw[show off+j=off+j / sz * sz+j % sz by rw[Tz,a],h1];exact hj
def yct {α:Type}{C:α->List Value}{P:Value->Prop}(l:List α) (h1: ∀x,∀u∈C x,P u): ∀u∈l.flatMap C,P u:=fun u H=>by
 obtain⟨x,-,hx⟩:=Su.1 H;exact h1 x u hx
def ycu {B:Nat}{e:TypeId}{n:Nat}{v:Value}{xs:List Value}(h:W.ownsRow B e sz v (0+n) ([]++xs)):W.ownsRow B e sz v n xs:=by rw[Pa]at h;exact h
def ycv {w:World}{b:Nat}{n:List Value}(HR: ∀j u,n[j]? =some u->jc w b (off+j) u): ∀j u,n[j]? =some u->(w.alloc o).cell? ((⟨b,off,none⟩:Addr).add j)=some u:=fun j u hj=>by
 rw[Fn];exact(((Nb w w).alloc ep _).cell (p:=⟨b,off+j,none⟩) Xx).trans (HR j u hj)
def ycw {w:World}(H:(w.alloc o).grownBy W (some w)):jb w W:=((Nb _ w).alloc ep _).grown H ee Xn
def rI (M:Nat) (f:FuncId) (e:TypeId) (sz:Nat){α:Type}(R:World->List Value->α->Prop) (C:α->List Value):Prop:= ∀(a:Option Addr) (cap:Nat) (l:List α) (w:World),aB w sz R a cap l->l.length<=M->
 jW f #[js a l cap] w fun en w'=> ∃v,en= .returned v/\w'.ownsRow w e sz v l (l.flatMap C)/\jb w w'
def tS {M:Nat}{f:FuncId}{t e:TypeId}{by_:Nat}{z:Value}{α:Type}{R:World->List Value->α->Prop}{C:α->List Value}(hu:prog.underlying t=some (.slice e)) (hinfo:(prog.info? e).map (fun i=>(i.zero,i.size,i.bytes))=some (some z,sz,by_))
  (hR: ∀w vs x,R w vs x->vs=C x) (hC: ∀x,(C x).length=sz) (h1: ∀x,∀u∈C x,u.oneCell'=true) (hz:0<sz)
  (s:prog.underlying t=some (.slice e)->(prog.info? e).map (fun i=>(i.zero,i.size,i.bytes))=some (some z,sz,by_)->(∀w vs x,R w vs x->vs=C x)->(∀x,(C x).length=sz)->(∀x,∀u∈C x,u.oneCell'=true)->0<sz->rI M f e sz R C:=by
   intro hu hinfo hR hC h1 hz a cap l w hl hm;have q:=fun(w:World) (a:Option Addr) (n c n' c':Nat)=>Go.Lib.run_eql_slice_nil (P:=prog) w _ _ a n c n' c' hu;obtain⟨i0,hi,hz0,hz1,hz2⟩:=info_parts hinfo;by_cases h0:l=[]
   ·subst h0;cases a
    all_goals ((first | go_in | go_in | go_in | go_in | go_in | go_in | go_in | go_in);go_wp2_with fail;go_ret;first | exact⟨_,rfl,World.ownsRow_nil _ _ _ _,Below.refl _ _⟩ | exact⟨_,rfl,World.ownsRow_made w #[] 0 (Nat.le_refl _) (Nat.zero_le _) (by simp),aR⟩)
   obtain⟨b,off,vs0,rfl,-⟩:=hl.at_ 0 (List.length_pos_iff.2 h0);have HR:=hI (mq hl (fun x _=>hC x) (hR w) hz);have HN:=hI (pC _ _ l (fun x _=>hC x));have H1:=hI (yct l h1);generalize List.flatMap _ _=news at *;have hlen:Hid (0<l.length):=List.length_pos_iff.2 h0;clear hl h0 hR hC h1 hinfo
   (first | go_in | go_in | go_in | go_in | go_in | go_in | go_in | go_in)
   go_wp2_with (at_builtin;refine wpList_append_own_at _ rfl _ _ _ rfl w _ i0 _ _ _ hu hi hz0 hz1 hz2 rfl (by decide) _ _ _ rfl (World.ownsRow_made w #[] 0 (Nat.le_refl _) (Nat.zero_le _) (by simp)) ⟨b,off,none⟩ l cap news rfl HN (ycv HR) H1 (by unfold maxLen;omega) (by omega) (by simp) ?_;intro v' w' hown hgr hnil hat);go_ret
   exact⟨_,rfl,ycu hown,ycw hgr⟩):rI M f e sz R C:=s hu hinfo hR hC h1 hz
def z2k:rI 1000 135 106 2 nX pT:=tS underlying29 WP (fun _ _ _ h=>h) (fun _=>rfl) (fun _=>by simp[pT,Value.oneCell']) eh
def z2l:rI 1000 136 108 3 mR pU:=tS underlying30 UQ (fun _ _ _ h=>h) (fun _=>rfl) (fun _=>by simp[pU,Value.oneCell']) eh
def z2m:rI 1000 137 99 4 mS pW:=tS underlying31 UP (fun _ _ _ h=>h) (fun _=>rfl) (fun _=>by simp[pW,Value.oneCell']) eh
structure RT (B:Nat) (w0:World) (st:St) (gx gr:Nat) (v0 v1 v2:Value) (f0 f1 f2 f3 f4 f5 f6 f7 f8 f9 f10:Bool) (s0 s1 s2 s3 s4 s5 s6 s7 s8 s9:Value) (W:World):Prop where
 bel:Below B w0 W
 hl:gr+1<=W.heap.size
 hx:jk W gx #[v0,v1,v2] 33
 hz:f10=false->jk W gr #[jN,jN,jN] 33
 h0:f0=true->s0= .pointer (some ⟨gx,0,none⟩)
 h1:f1=true->s1=v0
 h2:f2=true-> ∃a c,s2= .slice a st.tks c/\W.ownsRow (gr+1) 106 2 (js a st.tks c) st.tks (st.tks.flatMap pT)
 h3:f3=true->s3= .pointer (some ⟨gx,1,none⟩)
 h4:f4=true->s4=v1
 h5:f5=true-> ∃a c,s5= .slice a st.sws c/\W.ownsRow (gr+1) 108 3 (js a st.sws c) st.sws (st.sws.flatMap pU)
 h6:f6=true->s6= .pointer (some ⟨gx,2,none⟩)
 h7:f7=true->s7=v2
 h8:f8=true-> ∃a c,s8= .slice a st.lks c/\W.ownsRow (gr+1) 99 4 (js a st.lks c) st.lks (st.lks.flatMap pW)
 h9:f9=true-> ∃a1 c1 a2 c2 a3 c3,s9= .agg #[js a1 st.tks c1,js a2 st.sws c2,js a3 st.lks c3]/\bH W (gr+1) (js a1 st.tks c1) (js a2 st.sws c2) (js a3 st.lks c3) st
 h10:f10=true-> ∃a1 c1 a2 c2 a3 c3,jk W gr #[js a1 st.tks c1,js a2 st.sws c2,js a3 st.lks c3] 33/\bH W (gr+1) (js a1 st.tks c1) (js a2 st.sws c2) (js a3 st.lks c3) st
def RT.below {B:Nat}{w0:World}{st:St}{G gr:Nat}{v0 v1 v2:Value}{f0 f1 f2 f3 f4 f5 f6 f7 f8 f9 f10:Bool}{s0 s1 s2 s3 s4 s5 s6 s7 s8 s9:Value}{W':World}(h:RT B w0 st G gr v0 v1 v2 f0 f1 f2 f3 f4 f5 f6 f7 f8 f9 f10 s0 s1 s2 s3 s4 s5 s6 s7 s8 s9 W) (H:jb W W') (j:B<=W.heap.size):RT B w0 st G gr v0 v1 v2 f0 f1 f2 f3 f4 f5 f6 f7 f8 f9 f10 s0 s1 s2 s3 s4 s5 s6 s7 s8 s9 W':=
 {h with
  bel:=h.bel.trans (H.mono j)
  hl:=Nj h.hl H.size
  hx:=jm H h.hx
  hz:=fun k=>(H.block _ (aD (h.hz k))).trans (h.hz k)
  h2:=fun k=>by
   obtain⟨a,c,e,b⟩:=h.h2 k;exact⟨a,c,e,bU b H⟩
  h5:=fun k=>by
   obtain⟨a,c,e,b⟩:=h.h5 k;exact⟨a,c,e,bU b H⟩
  h8:=fun k=>by
   obtain⟨a,c,e,b⟩:=h.h8 k;exact⟨a,c,e,bU b H⟩
  h9:=fun k=>by
   obtain⟨A,C,d,f,g,i,e,b⟩:=h.h9 k;exact⟨A,C,d,f,g,i,e,b.below H⟩
  h10:=fun k=>by
   obtain⟨A,C,d,f,g,i,e,b⟩:=h.h10 k
   exact⟨A,C,d,f,g,i,(jm H e),b.below H⟩}
theorem z2n (st:St) (t sw lk:Value) (w:World) (E:fU w t sw lk st) (M:st.fit):
  jW 67 #[.agg #[t,sw,lk]] w fun e d=> ∃A C q r u x,e= .returned (.agg #[js A st.tks C,js q st.sws r,js u st.lks x])/\bH d w (js A st.tks C) (js q st.sws r) (js u st.lks x) st/\jb w d:=by
 have N:Hid (∀W,jb w W->fU W t sw lk st):=fun W g=>E.below g;have O:=hI M;obtain⟨P,d1,rfl,-⟩:=E.tks;obtain⟨Q,d2,rfl,-⟩:=E.sws;obtain⟨R,T,rfl,-⟩:=E.lks
 have U:Hid (∀W,jb w W->jW 135 #[js P st.tks d1] W fun e d=> ∃v,e= .returned v/\d.ownsRow W 106 2 v st.tks (st.tks.flatMap pT)/\jb W d):=fun W g=>by
  obtain⟨a,c,e,h⟩:=(N W g).tks;cases e;exact z2k _ _ _ W h O.1
 have V:Hid (∀W,jb w W->jW 136 #[js Q st.sws d2] W fun e d=> ∃v,e= .returned v/\d.ownsRow W 108 3 v st.sws (st.sws.flatMap pU)/\jb W d):=fun W g=>by
  obtain⟨a,c,e,h⟩:=(N W g).sws;cases e;exact z2l _ _ _ W h O.2.1
 have X:Hid (∀W,jb w W->jW 137 #[js R st.lks T] W fun e d=> ∃v,e= .returned v/\d.ownsRow W 99 4 v st.lks (st.lks.flatMap pW)/\jb W d):=fun W g=>by
  obtain⟨a,c,e,h⟩:=(N W g).lks;cases e;exact z2m _ _ _ W h O.2.2
 go_in;go_upto_region 1 with fail;generalize n:World.alloc _ _=W0;have K:=hI (eN n)
 have Y:=hI (jB n)
 have z:=hI (jC n)
 refine tN ef ef (fun f a y=> ∃F G I J s7 L s9 s s11 l:Value,a={tmps:=#[.agg #[js P st.tks d1,js Q st.sws d2,js R st.lks T],jp w 0,jp (w+1) 0,F,G,I,J,s7,L,s9,s,s11,l],defers:=[]}/\RT w w st w (w+1) (js P st.tks d1) (js Q st.sws d2) (js R st.lks T) (f 0) (f 1) (f 2) (f 3) (f 4) (f 5) (f 6) (f 7) (f 8) (f 9) (f 10) F G I J s7 L s9 s s11 l y) ?_ ?_ ?_
 ·exact⟨_,_,_,_,_,_,_,_,_,_,rfl,{bel:=⟨K.os,K.tape,K.output,K.size,K.block⟩,hl:=aD z,hx:=Y,hz:=fun _=>z,h0:=by simp,h1:=by simp,h2:=by simp,h3:=by simp,h4:=by simp,h5:=by simp,h6:=by simp,h7:=by simp,h8:=by simp,h9:=by simp,h10:=by simp}⟩
 ·intro i o b f a y p hd Z;obtain⟨F,G,I,J,s7,L,s9,s,s11,l,rfl,hS⟩:=p;have a0:=hS.bel.size;rcases i with _ | _ | _ | _ | _ | _ | _ | _ | _ | _ | _ | i
  ·simp at b;subst b;simp[wpOp,go_sem];refine Vk ?_;exact Xz
  ·simp at b;subst b;obtain rfl:=hS.h0 (hd ⟨0,.data⟩ ee ev);have cc:=ji 0 hS.hx;refine Vo ?_;refine Vk ?_;exact {hS with h1:=fun _=>rfl}
  ·simp at b;subst b;obtain rfl:=hS.h1 (hd ⟨1,.data⟩ ee ev);have B:=U y hS.bel;have j:=hS.hl;simp[wpOp,go_sem];refine .inl (B.mono ?_);rintro e d ⟨v,rfl,H,g⟩;obtain⟨a1,a2,rfl⟩:=rR H;simp[go_sem];exact⟨_,_,_,_,_,_,_,_,_,_,⟨rfl,rfl,rfl,rfl,rfl,rfl,rfl,rfl,rfl,rfl⟩,{RT.below hS g a0 with h2:=fun _=>⟨_,_,rfl,bW H j⟩}⟩
  ·simp at b;subst b;simp[wpOp,go_sem];refine Vk ?_;exact {hS with h3:=fun _=>rfl}
  ·simp at b;subst b;obtain rfl:=hS.h3 (hd ⟨3,.data⟩ ee ev);have cc:=ji 1 hS.hx;refine Vo ?_;refine Vk ?_;exact {hS with h4:=fun _=>rfl}
  ·simp at b;subst b;obtain rfl:=hS.h4 (hd ⟨4,.data⟩ ee ev);have B:=V y hS.bel;have j:=hS.hl;simp[wpOp,go_sem];refine .inl (B.mono ?_);rintro e d ⟨v,rfl,H,g⟩;obtain⟨a1,a2,rfl⟩:=rR H;simp[go_sem];exact⟨_,_,_,_,_,_,_,_,_,_,⟨rfl,rfl,rfl,rfl,rfl,rfl,rfl,rfl,rfl,rfl⟩,{RT.below hS g a0 with h5:=fun _=>⟨_,_,rfl,bW H j⟩}⟩
  ·simp at b;subst b;simp[wpOp,go_sem];refine Vk ?_;exact XR
  ·simp at b;subst b;obtain rfl:=hS.h6 (hd ⟨6,.data⟩ ee ev);have cc:=ji 2 hS.hx;refine Vo ?_;refine Vk ?_;exact {hS with h7:=fun _=>rfl}
  ·simp at b;subst b;obtain rfl:=hS.h7 (hd ⟨7,.data⟩ ee ev);have B:=X y hS.bel;have j:=hS.hl;simp[wpOp,go_sem];refine .inl (B.mono ?_);rintro e d ⟨v,rfl,H,g⟩;obtain⟨a1,a2,rfl⟩:=rR H;simp[go_sem];exact⟨_,_,_,_,_,_,_,_,_,_,⟨rfl,rfl,rfl,rfl,rfl,rfl,rfl,rfl,rfl,rfl⟩,{RT.below hS g a0 with h8:=fun _=>⟨_,_,rfl,bW H j⟩}⟩
  ·simp at b;subst b;obtain⟨A,C,rfl,o1⟩:=hS.h2 (hd ⟨2,.data⟩ ee ev);obtain⟨q,r,rfl,o2⟩:=hS.h5 (hd ⟨5,.data⟩ ee ev);obtain⟨u,x,rfl,o3⟩:=hS.h8 (hd ⟨8,.data⟩ ee ev);simp[wpOp,go_sem];refine Vk ?_;exact {hS with h9:=fun _=>⟨_,_,_,_,_,_,rfl,o1,o2,o3⟩}
  ·simp at b;subst b;obtain⟨A,C,q,r,u,x,rfl,H⟩:=hS.h9 (hd ⟨9,.data⟩ ee ev);have hz:=hS.hz Z;have a3:=jZ hz
   obtain⟨c0,c1,c2⟩:=fO hz;have a7:=aD hz;have hl:(w.heap.size+1)<w.heap.size+1+1:=Nx _;simp[wpOp,go_sem,a3,c0,c1,c2];refine Vk ?_;refine {hS with bel:=((hS.bel.setCell ee _).setCell ee _).setCell ee _,hl:=Zt,hx:=(by simp[World.setCell,Nk,hS.hx]),hz:=Vy,h2:=(fun k=>by obtain⟨a,c,e,b⟩:=hS.h2 k;exact⟨a,c,e,aV (aV (aV b hl _) hl _) hl _⟩),h5:=(fun k=>by obtain⟨a,c,e,b⟩:=hS.h5 k;exact⟨a,c,e,aV (aV (aV b hl _) hl _) hl _⟩),h8:=(fun k=>by obtain⟨a,c,e,b⟩:=hS.h8 k;exact⟨a,c,e,aV (aV (aV b hl _) hl _) hl _⟩),h9:=(fun k=>⟨_,_,_,_,_,_,rfl,((H.setCell hl _).setCell hl _).setCell hl _⟩),h10:=(fun _=>⟨_,_,_,_,_,_,by simp[World.setCell,Nk,hz],((H.setCell hl _).setCell hl _).setCell hl _⟩)}
  simp at b
 intro f a y p D;obtain⟨F,G,I,J,s7,L,s9,s,s11,l,rfl,hS⟩:=p;obtain⟨A,C,q,r,u,x,a4,H⟩:=hS.h10 (D 10 eh);have a5:=hI hS.bel;have a6:=hI H;obtain⟨r0,r1,r2⟩:=fO a4;go_wp2_with fail;exact Nh (v:= .agg #[js A st.tks C,js q st.sws r,js u st.lks x]) (by simp[results,Tryz.f67,go_sem,r0,r1,r2]) rfl ⟨_,_,_,_,_,_,rfl,a6.base ed,a5⟩
def oO (x:Pt):List Value:=[jV x.id,jV x.sec]
def oM (x:Sg):List Value:=[jV x.id,jV x.sec,jV x.en]
def dR (x:Int):List Value:=[.int .u8 x]
def dG (w:World) (vs:List Value) (x:Int):Prop:=vs=[.int .u8 x]
def fS:nQ dG:=fun _ _ _ _ _ h=>h
def CO:(prog.info? 143).map (fun i=>(i.zero,i.size,i.bytes))=some (some (.agg #[jV 0,jV 0]),2,16):=by kernel_rfl
def CN:(prog.info? 145).map (fun i=>(i.zero,i.size,i.bytes))=some (some (.agg #[jV 0,jV 0,jV 0]),3,24):=by kernel_rfl
def nD:(prog.info? 5).map (fun i=>(i.zero,i.size,i.bytes))=some (some (.int .u8 0),1,1):=by kernel_rfl
def CM:(prog.info? 80).map (fun i=>(i.zero,i.size,i.bytes))=some (some (.agg #[jV 0,jV 0,jN]),3,40):=by kernel_rfl
def CJ:(prog.info? 102).map (fun i=>(i.zero,i.size,i.bytes))=some (some (.agg #[jV 0,jV 0,jV 0,jN,jN,jN,jV 0]),7,104):=by kernel_rfl
def IQ (x:Pt): ∀u∈oO x,u.oneCell'=true:=uR _ _
def IP (x:Sg): ∀u∈oM x,u.oneCell'=true:=uN _ _ _
def UO (x:Jn): ∀u∈nG x,u.oneCell'=true:=uR _ _
def yW (x:Int): ∀u∈dR x,u.oneCell'=true:=by intro u H;simp[dR]at H;subst H;rfl
def z2o:rI 1000 123 143 2 iA oO:=tS underlying24 CO (fun _ _ _ h=>h) (fun _=>rfl) IQ eh
def z2p:rI 1000 124 145 3 gZ oM:=tS underlying25 CN (fun _ _ _ h=>h) (fun _=>rfl) IP eh
def z2q:rI 8796093022208 127 133 2 fI nG:=tS underlying78 AB (fun _ _ _ h=>h) (fun _=>rfl) UO eh
def UN:rI 10000 60 5 1 dG dR:=tS underlying22 nD (fun _ _ _ h=>h) (fun _=>rfl) yW eh
def UM {α:Type}{w:World}{R:World->List Value->α->Prop}{a:Option Addr}{l:List α}(h:aB w sz R a cap l) (hz:0<sz): ∃xss:List (List Value),xss.length=l.length/\(∀x∈xss,x.length=sz)/\(∀i (h:i<xss.length) (h':i<l.length),R w xss[i] l[i])/\ ∀b off,a=some ⟨b,off,none⟩-> ∀j u,(xss.flatMap id)[j]? =some u->jc w b (off+j) u:=by
 have key: ∀i (hi:i<l.length),∃v:List Value,v.length=sz/\R w v l[i]/\ ∀b off,a=some ⟨b,off,none⟩-> ∀j (hj:j<v.length),jc w b (off+i * sz+j) v[j]:=fun i hi=>by
  obtain⟨b,off,v,e,k,p,d⟩:=h.at_ i hi;refine⟨v,k,d,fun B O E j hj=> ?_⟩;rw[e]at E;cases E;exact p j hj
 obtain⟨f,g⟩: ∃f:Nat->List Value,∀i (hi:i<l.length),(f i).length=sz/\R w (f i) l[i]/\ ∀b off,a=some ⟨b,off,none⟩-> ∀j (hj:j<(f i).length),jc w b (off+i * sz+j) (f i)[j]:=
  ⟨fun i=>if hi:i<l.length then Classical.choose (key i hi)else [],fun i hi=>by simp only[dif_pos hi];exact Classical.choose_spec (key i hi)⟩
 have H: ∀x∈(List.range l).map f,x.length=sz:=fun x hx=>by
  obtain⟨i,hi,rfl⟩:=List.mem_map.1 hx;exact(g i (List.mem_range.1 hi)).1
 refine⟨(List.range l).map f,ee,H,fun i h1 h2=>by simp only[Gg,List.getElem_range];exact(g i h2).2.1,fun b off e j u hj=> ?_⟩;have n:=pC id sz _ H
 have hjl:j<l.length * sz:=by
  have:=(List.getElem?_eq_some_iff.1 hj).1;rw[n]at this
  simpa using this
 refine Ya fun hi d c=>?_;have o:j / sz<((List.range l).map f).length:=Og
 have h1:=rB id sz _ (j / sz) (j % sz) o H d;rw[c,hj]at h1;have h2:(j % sz)<(f (j / sz)).length:=by rw[(g _ hi).1];exact d
 have h3:=(g _ hi).2.2 b off e (j % sz) h2;simp only[id,Gg,List.getElem_range]at h1;rw[Nf h2]at h1;rw[show off+j=off+j / sz * sz+j % sz by rw[Tz,c],h3,h1]
def z2r (a:Option Addr) (cap:Nat) (l:List aF) (w0 w:World) (hl:aB w 3 (fun _=>cU w0) a cap l) (P:l.length<=1000):
  jW 125 #[js a l cap] w fun e r=> ∃(v:Value) (xss:List (List Value)),e= .returned v/\r.ownsRow w 80 3 v xss (xss.flatMap id)/\xss.length=l.length/\(∀x∈xss,x.length=3)/\(∀i (h:i<xss.length) (h':i<l.length),cU w0 xss[i] l[i])/\jb w r:=by
 have q:=fun w a n c F G=>Go.Lib.run_eql_slice_nil w _ _ a n c F G underlying23;obtain⟨i0,s,t,y,z⟩:=Se CM;cases a with
 | none=>
  have h0:l=[]:=by
   cases l with
   | nil=>rfl
   | cons c l=>obtain⟨b,off,Q,e,_⟩:=hl.at_ 0 ee;cases e
  subst h0;go_in;refine ei ?_;exact Rk
 | some ad=>
  by_cases h0:l=[]
  ·subst h0;go_in;refine ei ?_;exact⟨_,[],rfl,Si w #[] 0 ep (Pe _) ee,rfl,fun x h=>by simp at h,fun i h=>by simp at h,aR⟩
  refine Ey fun b off _ e=>?_;cases e;obtain⟨xss,H,f,g,A⟩:=UM hl eh;have HR:=hI (A b off rfl);have I:Hid ((xss.flatMap id).length=l.length * 3):=by show _=_;rw[pC id 3 xss f,H]
  have H1:Hid (∀u∈xss.flatMap id,u.oneCell'=true):=by
   intro u J;obtain⟨x,B,hx⟩:=Su.1 J;obtain⟨i,s,rfl⟩:=No B;obtain⟨e,h3,h4⟩:=g i s (by rw[<-H];exact s);rw[h3]at hx;obtain⟨a9,c9,h9,-⟩:=h4;simp only[id,Dv,Pf,Ta]at hx;rcases hx with rfl | rfl | rfl
   ·rfl
   ·rfl
   rw[h9];rfl
  have K:Hid (∀(v:Value) (W:World),W.ownsRow w 80 3 v (0+l.length) ([]++xss.flatMap id)->W.ownsRow w 80 3 v xss (xss.flatMap id)):=fun v W h=>by rw[Pa,<-H]at h;exact h
  have C:Hid (xss.length=l.length/\(∀x∈xss,x.length=3)/\(∀i (h:i<xss.length) (h':i<l.length),cU w0 xss[i] l[i])):=⟨H,f,g⟩;generalize hq:xss.flatMap id=N at *
  have L:Hid (∀j u,N[j]? =some u->(w.alloc (.cells #[] 80)).cell? ((⟨b,off,none⟩:Addr).add j)=some u):=fun j u hj=>by
   rw[Fn];exact(((Nb w w).alloc ep _).cell (p:=⟨b,off+j,none⟩) Xx).trans (HR j u hj)
  have D:=hI (List.length_pos_iff.2 h0);go_in;go_wp2_with (at_builtin;refine wpList_append_own_at _ rfl _ _ 23 rfl w 80 i0 (.agg #[jV 0,jV 0,jN]) 3 40 underlying23 s t y z rfl eh _ _ _ rfl (Si w #[] 0 ep (Pe _) ee) ⟨b,off,none⟩ l cap N rfl I L H1 Oq ed ee ?_;intro v' r o d E M);have d:(w.alloc (.cells #[] 80)).grownBy r (some w):=d;go_ret;exact⟨_,xss,rfl,by rw[hq];exact K _ _ o,C.1,C.2.1,C.2.2,(((Nb _ w).alloc ep _).grown d ee Xn)⟩
def z2s (a:Option Addr) (cap:Nat) (l:List Rt) (w0 w:World) (hl:aB w 7 (fun _=>fH w0) a cap l) (R:l.length<=1000):
  jW 126 #[js a l cap] w fun e t=> ∃(v:Value) (xss:List (List Value)),e= .returned v/\t.ownsRow w 102 7 v xss (xss.flatMap id)/\xss.length=l.length/\(∀x∈xss,x.length=7)/\(∀i (h:i<xss.length) (h':i<l.length),fH w0 xss[i] l[i])/\jb w t:=by
 have q:=fun w a n c I J=>Go.Lib.run_eql_slice_nil w _ _ a n c I J underlying26;obtain⟨i0,y,z,A,B⟩:=Se CJ;cases a with
 | none=>
  have h0:l=[]:=by
   cases l with
   | nil=>rfl
   | cons c l=>obtain⟨b,off,T,e,_⟩:=hl.at_ 0 ee;cases e
  subst h0;go_in;refine ei ?_;exact Rk
 | some ad=>
  by_cases h0:l=[]
  ·subst h0;go_in;refine ei ?_;exact⟨_,[],rfl,Si w #[] 0 ep (Pe _) ee,rfl,fun x h=>by simp at h,fun i h=>by simp at h,aR⟩
  refine Ey fun b off _ e=>?_;cases e;obtain⟨xss,H,g,r,C⟩:=UM hl eh;have HR:=hI (C b off rfl);have K:Hid ((xss.flatMap id).length=l.length * 7):=by show _=_;rw[pC id 7 xss g,H]
  have H1:Hid (∀u∈xss.flatMap id,u.oneCell'=true):=by
   intro u L;obtain⟨x,D,hx⟩:=Su.1 L;obtain⟨i,y,rfl⟩:=No D;obtain⟨p,o,f,h3,h4⟩:=r i y (by rw[<-H];exact y);rw[h3]at hx;obtain⟨a7,c7,h7,-⟩:=h4.A.at_;obtain⟨a8,c8,h8,-⟩:=h4.O.at_;obtain⟨a9,c9,h9,-⟩:=h4.fl;simp only[id,Dv,Pf,Ta]at hx;rcases hx with rfl | rfl | rfl | rfl | rfl | rfl | rfl
   ·rfl
   ·rfl
   ·rfl
   ·rw[h7];rfl
   ·rw[h8];rfl
   ·rw[h9];rfl
   rfl
  have M:Hid (∀(v:Value) (W:World),W.ownsRow w 102 7 v (0+l.length) ([]++xss.flatMap id)->W.ownsRow w 102 7 v xss (xss.flatMap id)):=fun v W h=>by rw[Pa,<-H]at h;exact h
  have E:Hid (xss.length=l.length/\(∀x∈xss,x.length=7)/\(∀i (h:i<xss.length) (h':i<l.length),fH w0 xss[i] l[i])):=⟨H,g,r⟩;generalize hq:xss.flatMap id=N at *
  have O:Hid (∀j u,N[j]? =some u->(w.alloc (.cells #[] 102)).cell? ((⟨b,off,none⟩:Addr).add j)=some u):=fun j u hj=>by
   rw[Fn];exact(((Nb w w).alloc ep _).cell (p:=⟨b,off+j,none⟩) Xx).trans (HR j u hj)
  have F:=hI (List.length_pos_iff.2 h0);go_in;go_wp2_with (at_builtin;refine wpList_append_own_at _ rfl _ _ 26 rfl w 102 i0 (.agg #[jV 0,jV 0,jV 0,jN,jN,jN,jV 0]) 7 104 underlying26 y z A B rfl eh _ _ _ rfl (Si w #[] 0 ep (Pe _) ee) ⟨b,off,none⟩ l cap N rfl K O H1 Oq ed ee ?_;intro v' t s d G P);have d:(w.alloc (.cells #[] 102)).grownBy t (some w):=d;go_ret;exact⟨_,xss,rfl,by rw[hq];exact M _ _ s,E.1,E.2.1,E.2.2,(((Nb _ w).alloc ep _).grown d ee Xn)⟩
section
open Go.RowKit Go.Shelf Tryz
attribute [local go_sem] Oper.semAt_some
def IN (N:Nat) (W:World):Nat:=match W.cell? ⟨N,0,none⟩with | some (.int _ v)=>v.toNat | _=>0
def UL {N:Nat}{m:Nat}(h:jc W N 0 (jV (m:Int))):IN N W=m:=by
 unfold IN;rw[h];simp
def UK (J:Nat->World->Prop) (Jend:World->Prop) (N n k:Nat) (e:Ending) (W':World):Prop:=
 e= .returned (.bool true)/\jc W' N 0 (jV ((n / 128 ^ k:Nat):Int))/\W'.frozen? ⟨N,0,none⟩=false/\
  (128<=n / 128 ^ k->J (k+1) (W'.setCell ⟨N,0,none⟩ (jV ((n / 128 ^ (k+1):Nat):Int))))/\(n / 128 ^ k<128->Jend W')
def z2t (m l N n:Nat) (y:n<=2147483647) (J:Nat->World->Prop) (j:World->Prop)
  (p: ∀k W,J k W->jc W N 0 (jV ((n / 128 ^ k:Nat):Int))/\
   YieldAt Fence.wide (m-1) prog l #[.int .u8 (((n / 128 ^ k:Nat):Int) % 128),.bool (decide (128<=n / 128 ^ k))] W (UK J j N n k))
  (W:World) (h0:J 0 W):
  CallsIn Fence.wide m prog 409 #[.func (.yield l) #[] #[],jp N 0] W fun e W'=>(∃v,e= .returned v)/\j W':=by
 refine callsIn_of_wp func409 rfl Py ?_ rfl;simp only[ntmps409,Gv,Du,Tl,Nat.reduceAdd,Nat.reduceSub,Gk,Gj,Gx,Gq,Dd,Nz]
 gi_wp2
 gi_loopw [3] (fun _ wr=> ∃k,J k wr) (fun _ wr=>IN N wr)
 case atStart=>exact⟨0,h0⟩
 case round=>
  obtain⟨k,r⟩:=hrel;obtain⟨s,F,tmps,assign,B,o,t⟩:=p k wr r;have z:n / 128 ^ k<=n:=Ik _ _;have hq:n / 128 ^ (k+1)=n / 128 ^ k / 128:=by rw[Hd,He]
  have u:=hI hq;have d:=s;have a:=hI t;unfold UK at a;generalize n / 128 ^ k=q at *;by_cases H:128<=q
  ·rw[Ni H]at o;have f:decide ((128:Int)<=(q:Int))=true:=by simp;omega
   gi_wp2
   refine⟨fun h=>(nomatch h),a.mono ?_⟩;rintro e W3 ⟨rfl,b,g,i,-⟩;have w:=hI (i H)
   gi_wp2
   go_roundw
   case rel=>
    refine⟨k+1,?_⟩;have:=w.o;rw[u.o]at this;exact this
   case measure=>
    rw[UL d,show((q:Int) / 128)=((q / 128:Nat):Int)by omega,UL (m:=q / 128) (World.cell?_setCell_same' _ _ _ (by rw[b];rfl))];omega
  rw[Mw H]at o;have f:decide ((128:Int)<=(q:Int))=false:=by simp;omega
  gi_wp2
  refine⟨fun h=>(nomatch h),a.mono ?_⟩;rintro e W3 ⟨rfl,b,g,-,c⟩;have x:=hI (c ed)
  gi_wp2
  go_end0
  exact⟨⟨_,rfl⟩,x⟩
attribute [local go_sem] Oper.semAt_some
def eT (l:List Nat):List Value:=l.map (fun c:Nat=>Value.int .u8 (c:Int))
def IM (a b:List Nat):eT (a++b)=eT a++eT b:=by unfold eT;exact Pr
def z2u (n:Int) (w:World):
  jW 369 #[n] w fun e W=>e= .returned (.func (.func 409) #[] #[jp w 0])/\w.alloc (.cells #[n] 3)=W:=by
 go_in
 go_wp2
 go_ret;exact⟨rfl,rfl⟩
def IK (B:Nat) (A:World->Prop) (W:World):Exit->Act->World->Prop
 | .normal,_,W'=>KeepsFrom B W W'/\A W'
 | _,_,_=>False
theorem z2v {Q:Exit->Act->World->Prop}{a:Act}{w:World}{g:Operand}{ps:Array Tmp}{assign body:Code}(N n:Nat) (Y:n<=2147483647) (a2:N<w.heap.size)
  (Z:a.eval g= .func (.func 409) #[] #[jp N 0]) (x:ps.size=2) (I A:Nat->World->Prop)
  (y: ∀k W,I k W->jc W N 0 (jV ((n / 128 ^ k:Nat):Int)))
  (U: ∀k W,A k W->jc W N 0 (jV ((n / 128 ^ k:Nat):Int))/\W.frozen? ⟨N,0,none⟩=false)
  (c: ∀k W,A k W->128<=n / 128 ^ k->I (k+1) (W.setCell ⟨N,0,none⟩ (jV ((n / 128 ^ (k+1):Nat):Int))))
  (z: ∀k W l o o',w.heap.size<=l->W.heap[l]? =some o->o.isCells=false->I k W->I k (W.putObj l o'))
  (j: ∀k W l o o',w.heap.size<=l->W.heap[l]? =some o->o.isCells=false->A k W->A k (W.putObj l o'))
  (h0: ∀o o',I 0 ((w.alloc o).alloc o')) (V:Nat->Act)
  (hassign: ∀(l k:Nat) (W:World) (K:Act->World->Prop),K (V k) W->
   assign.wpIn (Fence.wide.inRound l) 1 prog (Exit.then K (fun _ _ _=>False)) {tmps:=(ps.zip #[.int .u8 (((n / 128 ^ k:Nat):Int) % 128),.bool (decide (128<=n / 128 ^ k))]).foldl (fun t (p,v)=>t.setIfInBounds p v) a.tmps,defers:=[]} W)
  (d: ∀(l k:Nat) (W:World),I k W->body.wpIn (Fence.wide.inRound l) 1 prog (IK w (A k) W) (V k) W)
  (f: ∀(D k:Nat) (W:World),w.heap.size<=D->A k W->n / 128 ^ k<128->W.heap[D]? =some (.deferred (some []))->Q .normal {a with defers:={target:= .collected D,args:=#[]}::a.defers} W):
  (Code.rangeFunc g ps assign body).wpIn Fence.wide 3 prog Q a w:=by
 refine wpIn_rangeFunc ?_;intro fn hfn;have C:Fence.wide.round=none:=rfl;rw[C];generalize E:w.heap.size=B at *;refine YV fun R hR b=>?_;rw[E]at b
 have F:((w.alloc (.deferred (some []))).alloc (.loop (R .ready))).heap[B+1]? =some (.loop (R .ready)):=by
  have:=World.alloc_heap_new (w.alloc (.deferred (some []))) (.loop (R .ready))
  rwa [Pv,E]at this
 have G:((w.alloc (.deferred (some []))).alloc (.loop (R .ready))).heap[B]? =some (.deferred (some [])):=by
  refine(Below.heap_alloc _ _ _ em).trans ?_;have:=World.alloc_heap_new w (.deferred (some []))
  rwa [E]at this
 have hz:=h0 (.deferred (some [])) (.loop (R .ready));generalize J:(w.alloc (.deferred (some []))).alloc (.loop (R .ready))=u at *
 refine⟨B+1,[{target:= .collected B,args:=#[]}],u,{target:= .fn (.func 409) #[jp N 0],args:=#[.func (.yield (B+1)) #[] #[]]},u,409,
  #[.func (.yield (B+1)) #[] #[]]++#[.pointer (some ⟨N,0,none⟩)],u,?_,?_,fun _ _=>Py,?_,fun h=>(nomatch h),?_⟩
 ·rw[b,<-J,hR]
 ·simp only[resolve,Z];simp[go_sem]
 ·simp[invoke,go_sem]
 refine(z2t 2 (B+1) N n Y (fun k W=>I k W/\W.heap[B+1]? =some (.loop (R .ready))/\W.heap[B]? =some (.deferred (some [])))
  (fun W=> ∃k,A k W/\n / 128 ^ k<128/\W.heap[B+1]? =some (.loop (R .ready))/\W.heap[B]? =some (.deferred (some []))) ?_ u ⟨hz,F,G⟩).mono ?_
 ·rintro k W ⟨X,hl,hd⟩;refine⟨y k W X,?_⟩;have G9:=(Array.getElem?_eq_some_iff.1 hl).1;have hy:=run_yield (P:=prog) (args:=#[.int .u8 (((n / 128 ^ k:Nat):Int) % 128),.bool (decide (128<=n / 128 ^ k))]) hl (by rw[hR];exact x.symm);rw[hR]at hy;refine YK fun L=>?_;have M:(W.putObj (B+1) (.loop {R .ready with state:= .busy})).heap[B]? =some (.deferred (some [])):=(World.putObj_heap_other ed).trans hd;refine wpIn_mono (d _ k _ (z k W _ _ _ ed hl rfl X)) ?_;rintro e a3 W3 i;cases e with
  | normal=>
   obtain⟨q,O⟩:=i;have hl3:=q.same _ _ ed L rfl;have T:=q.same _ _ ep M rfl;have he:=run_endRound (P:=prog) none hl3;have H:=j k W3 _ _ (.loop (R .ready)) ed hl3 rfl O;refine Ma fun r=>?_;have s:(W3.putObj (B+1) (.loop (R .ready))).heap[B]? =some (.deferred (some [])):=(World.putObj_heap_other ed).trans T;refine⟨.bool true,W3.putObj (B+1) (.loop (R .ready)),by rw[he,hR];rfl,rfl,(U k _ H).1,(U k _ H).2,fun h=>⟨c k _ H h,?_,?_⟩,fun h=>⟨k,H,h,r,s⟩⟩
   ·rw[Ny _ _ _ _ em];exact r
   rw[Ny _ _ _ _ em];exact s
  | ret=>exact i.elim
  | exit id=>exact i.elim
  | goto t=>exact i.elim
  | panic a4=>exact i.elim
  | outgrown=>exact i.elim
 rintro e W2 ⟨⟨v,rfl⟩,k,a0,a1,hl,hd⟩;refine⟨none,_,by have:=run_endLoop (P:=prog) hl Eg;rw[hR]at this;exact this,?_⟩;exact f B k _ ep (j k _ _ _ _ ed hl rfl a0) a1 ((World.putObj_heap_other ed).trans hd)
def eZ (w:World) (n j:Nat) (pre:List Nat) (W:World):Prop:=
 (∃v,Boxed W w 22 v/\W.ownsRow w 5 1 v pre (eT pre))/\Boxed W (w+1) 3 (jV ((n / 128 ^ j:Nat):Int))/\jb w W
def eZ.putObj {w:World}{n j:Nat}(h:eZ w n j pre W){l:Nat}(o':Obj) (hl:w.heap.size+2<=l) (a:W.heap[l]? =some o) (b:o.isCells=false):eZ w n j pre (W.putObj l o'):=by
 obtain⟨⟨v,h1,h2⟩,h3,h4⟩:=h;have H:=grownBy_putObj' W l o';refine⟨⟨v,h1.kept H em,ownsRow_putObj h2 o' a b⟩,h3.kept H em,h4.grown H h4.size (fun k e=>by cases e;omega)⟩
def eZ.alloc {w:World}{n j:Nat}(h:eZ w n j pre W) (o:Obj):eZ w n j pre (W.alloc o):=by
 obtain⟨⟨v,h1,h2⟩,h3,h4⟩:=h;exact⟨⟨v,h1.alloc o,h2.alloc o⟩,h3.alloc o,h4.alloc h4.size o⟩
def eZ.num {w:World}{n j:Nat}(h:eZ w n j pre W) (J:Nat):eZ w n J pre (W.setCell ⟨w+1,0,none⟩ (jV ((n / 128 ^ J:Nat):Int))):=by
 obtain⟨⟨v,h1,h2⟩,h3,h4⟩:=h;have H:=grownBy_setCell' W (w+1) (jV ((n / 128 ^ J:Nat):Int));exact⟨⟨v,h1.kept H ee,h2.kept H (.inr (h3.not_row eh h2).symm)⟩,h3.set _,h4.setCell ee _⟩
def z2w (w:World) (n k:Nat) (W:World):Prop:= ∃pre,pre++cD (n / 128 ^ k)=cD n/\eZ w n k pre W
def UJ (w:World) (n k:Nat) (W:World):Prop:= ∃pre,(128<=n / 128 ^ k->pre++cD (n / 128 ^ (k+1))=cD n)/\(n / 128 ^ k<128->pre=cD n)/\eZ w n k pre W
def z2x (q:Nat):bits .or .u8 ((q:Int) % 128) 128=(((128+q % 128:Nat)):Int):=by
 have h:q % 128<128:=Nat.mod_lt _ eh;rw[show((q:Int) % 128)=((q % 128:Nat):Int)by omega];generalize q % 128=m at *;have: ∀m:Fin 128,bits .or .u8 ((m.val:Nat):Int) 128=((128+m.val:Nat):Int):=by decide+kernel
 exact this ⟨m,h⟩
def UI (w:World) (n:Nat) (e:Ending) (w':World):Prop:=
 ∃v,e= .returned (.tuple #[v,jV 0])/\w'.ownsRow w 5 1 v (cD n).length (eT (cD n))/\jb w w'
theorem z2y (n:Nat) (w:World) (a4:n<=2147483647):CallsIn Fence.wide 3 prog 275 #[jV (n:Int)] w (UI w n):=by
 have h1:decide ((n:Int)<0)=false:=ee
 have h2:decide ((2147483647:Int)<(n:Int))=false:=em
 obtain⟨i0,Z,B,E,F⟩:=Se nD;have h5:(cD n).length<=5:=uP ed;refine callsIn_of_wp_marks func275 rfl Py ?_ rfl;simp only[ntmps275,Gv,Du,Tl,Nat.reduceAdd,Nat.reduceSub,Gk,Gj,Gx,Gq,Dd,Nz]
 gi_wp2_with fail
 refine⟨Py,(callsIn_wide.2 (z2u _ _)).mono ?_⟩;rintro e b2 ⟨rfl,rfl⟩
 gi_wp2_with fail
 have u:eZ w n 0 [] ((w.alloc (.cells #[jN] 22)).alloc (.cells #[jV (n:Int)] 3)):=by
  refine⟨⟨jN,(Boxed.new w 22 (jN)).alloc _,Nw _ _ _ _⟩,?_,((Nb _ w).alloc ep _).alloc ee _⟩;have:=Boxed.new (w.alloc (.cells #[jN] 22)) 3 (jV (n:Int));rw[Pv]at this;rw[Nat.pow_zero,Nat.div_one];exact this
 refine z2v (w+1) n a4 ee rfl rfl (z2w w n) (UJ w n) (fun k W ⟨pre,_,t⟩=>t.2.1.cell) (fun k W ⟨pre,_,_,t⟩=>⟨t.2.1.cell,t.2.1.frozen⟩)
  (fun k W ⟨pre,j,_,t⟩ h=>⟨pre,j h,t.num (k+1)⟩)
  (fun k W l o o' hl M N ⟨pre,j,t⟩=>⟨pre,j,t.putObj o' (by simpa using hl) M N⟩)
  (fun k W l o o' hl M N ⟨pre,j,O,t⟩=>⟨pre,j,O,t.putObj o' (by simpa using hl) M N⟩)
  (fun o o'=>⟨[],ee,(u.alloc o).alloc o'⟩)
  (fun k=>{tmps:=#[n,undef,jN,jV 0,jp w 0,.int .u8 (((n / 128 ^ k:Nat):Int) % 128),.bool (decide (128<=n / 128 ^ k)),n,
   .bool false,.bool false,n,.bool false,.bool false,n,.func (.func 409) #[] #[jp (w+1) 0],.int .u8 (((n / 128 ^ k:Nat):Int) % 128),.bool (decide (128<=n / 128 ^ k)),
   undef,undef,undef,undef,undef,undef,undef,undef],defers:=[]}) ?assign ?body ?done
 case assign=>
  intro l k W K a5
  gi_wp2
  exact a5
 case body=>
  rintro l k W ⟨pre,j,⟨v,I,d⟩,i,f⟩
  have a0:pre.length<5:=by
   have:=Tc List.length j;have h3:=tL (n / 128 ^ k);simp at this;omega
  have hq:n / 128 ^ (k+1)=n / 128 ^ k / 128:=by rw[Hd,He]
  obtain⟨q,x⟩: ∃q,n / 128 ^ k=q:=⟨_,rfl⟩;have a1:=hI x;rw[x]at j hq i ⊢;clear x;have a6:=I.cell;have b3:=I.frozen;have P:=f.size;have a2:=hI j;have a7:=hI hq;have Q:=z2x q;clear j hq
  have p: ∀(c:Nat) (w1:World) (G C:Nat) (H:w1.ownsRow w 5 1 (jq G 0 (pre.length+1) C) (pre.length+1) (eT pre++[.int .u8 (c:Int)])) (b:(W.alloc (.cells #[.int .u8 (c:Int)] 5)).grownBy w1 v.ownBlock),
    (128<=q->c=128+q % 128)->(q<128->c=q)->
    Boxed w1 w 22 v/\KeepsFrom (w+2) W (w1.setCell ⟨w,0,none⟩ (jq G 0 (pre.length+1) C))/\(∀e,n / 128 ^ k=e->e=q->UJ w n k (w1.setCell ⟨w,0,none⟩ (jq G 0 (pre.length+1) C))):=by
   intro c w1 G C H b y R;obtain⟨g,T,U,r,V⟩:=I.appended eh d P ep H b;refine⟨g,r.from _,fun e he z=>⟨pre++[c],?_,?_,⟨_,T,?_⟩,?_,f.trans V⟩⟩
   ·intro a;rw[he,z]at a;rw[<-a2.o,tM a,<-y a,Dk,a7.o];rfl
   ·intro a;rw[he,z]at a;rw[<-a2.o,qL a,R a]
   ·rw[IM,Mx];exact U
   rw[he,z];exact((i.alloc (.cells #[.int .u8 (c:Int)] 5)).kept b ((i.alloc (.cells #[.int .u8 (c:Int)] 5)).not_row eh (d.alloc (.cells #[.int .u8 (c:Int)] 5)))).kept (grownBy_setCell' _ _ _) ee
  by_cases a:128<=q
  ·have X:=jT a;obtain⟨c,A⟩: ∃c,c=128+q % 128:=⟨_,rfl⟩;rw[<-A]at Q;have a8:=hI A;clear A
   gi_wp2_with (gi_at_builtin;refine wpListIn_append_own _ rfl _ _ 22 rfl w 5 i0 (.int .u8 0) 1 1 underlying22 Z B E F rfl eh _ _ _ rfl (d.alloc _) ⟨W,0,none⟩ 1 1 [.int .u8 (c:Int)] rfl rfl (cell_one_new _ _ _) Qj Oq ed em ?_;intro v' w1 H b _;obtain⟨G,C,rfl⟩:=ownsRow_succ H;obtain⟨g,r,s⟩:=p c w1 G C H b (fun _=>a8) (fun h=>absurd h ed);have y:=g.cell;have Y:=g.frozen)
   exact⟨by simp only[Pv];exact r,s _ rfl a1⟩
  have X:=jU a;have a3:(q:Int) % 128=(q:Int):=by omega
  gi_wp2_with (gi_at_builtin;refine wpListIn_append_own _ rfl _ _ 22 rfl w 5 i0 (.int .u8 0) 1 1 underlying22 Z B E F rfl eh _ _ _ rfl (d.alloc _) ⟨W,0,none⟩ 1 1 [.int .u8 (q:Int)] rfl rfl (cell_one_new _ _ _) Qj Oq ed em ?_;intro v' w1 H b _;obtain⟨G,C,rfl⟩:=ownsRow_succ H;obtain⟨g,r,s⟩:=p q w1 G C H b (fun h=>absurd h a) (fun _=>rfl);have y:=g.cell;have Y:=g.frozen)
  exact⟨by simp only[Pv];exact r,s _ rfl a1⟩
 case done=>
  intro D k W a9 b0 b1 J;obtain⟨pre,_,j,⟨v,I,d⟩,i,f⟩:=b0;have L:=j b1;subst L;have a6:=I.cell;simp only[Pv]at a9
  gi_wp2
  refine⟨ee,.inl ⟨_,_,rfl,run_takeDeferred J,?_⟩⟩;refine⟨_,results_tmp2 rfl _ _ _,v,rfl,ownsRow_putObj d _ J rfl,f.grown (grownBy_putObj' _ _ _) f.size (fun k e=>by cases e;omega)⟩
def z2z (n:Nat) (w:World) (H:n<=2147483647):jW 275 #[jV (n:Int)] w (UI w n):=callsIn_wide.1 (z2y n w H)
end
def aO (l:List Int):Prop:= ∀x∈l,0<=x/\x<=255
def UC: ∀ {l m:List Int},aO l->aO m->l.map (fun n=>UInt8.ofNat n.toNat)=m.map (fun n=>UInt8.ofNat n.toNat)->l=m
 | [],[],_,_,_=>rfl
 | [],y::m,_,_,h=>by simp at h
 | x::l,[],_,_,h=>by simp at h
 | x::l,y::m,hl,hm,h=>by
  simp only[Hu,Il]at h;have hx:=hl x Dq;have H:=hm y Dq
  have e:x=y:=by
   have h1:=Tc UInt8.toNat h.1;simp only[UInt8.toNat_ofNat']at h1;omega
  rw[e,UC (fun z hz=>hl z (Dy _ hz)) (fun z hz=>hm z (Dy _ hz)) h.2]
def UB {l m:List Int}(hl:aO l) (H:aO m):((Go.strOfNums l).toList==(Go.strOfNums m).toList)=decide (l=m):=by
 rw[Dh,Da,Dj];constructor
 ·intro h
  have h1: ∀xs:List Int,(Go.strOfNums xs).toList=xs.map (fun n=>UInt8.ofNat n.toNat):=fun xs=>by
   rw[<-Go.strOfNums_data];exact Ia _
  rw[h1,h1]at h;exact UC hl H h
 rintro rfl;rfl
def z3o (w:World) (p:Option Addr) (c:Nat):(convert 22 9 (js p 0 c)).run prog w= .ok (.string ByteArray.empty) w:=by
 rw[Fs w 22 9 5 _ 0 c underlying22 underlying5 underlying9];cases p<;>simp[Conv.bytesToString,loadCells]
 all_goals rfl
def DU {w:World}{a:Option Addr}{l:List Int}(hl:aB w 1 dG a cap l):(convert 22 9 (js a l cap)).run prog w= .ok (.string (Go.strOfNums l)) w:=by
 cases a with
 | none=>
  have h0:l=[]:=by
   cases l with
   | nil=>rfl
   | cons c l=>obtain⟨b,off,v,e,_⟩:=hl.at_ 0 ee;cases e
  subst h0;exact Go.run_convert_bytes_nil w 22 5 underlying22 underlying5 _ _ 9 underlying9
 | some ad=>
  by_cases h0:l=[]
  ·subst h0;exact z3o w (some ad) cap
  refine Ey fun b off _ e=>?_;cases e;refine Go.run_convert_bytes_arg w 22 5 underlying22 underlying5 b off l cap l rfl (fun i H=> ?_) 9 underlying9;obtain⟨B,o,v,e,d,f,g⟩:=hl.at_ i H;cases e;obtain rfl:v=[.int .u8 l[i]]:=g;have:=f 0 ee
  simpa [Na,H]using this
open Go.Sort
def wR (w:World) (n:Int) (e:Ending) (w':World):Prop:=e= .returned (jV n)/\jb w w'
def UA (x:aF) (A:Option Addr) (c:Nat) (a b:Int) (w:World):jW 314 #[jY x A c,a,b] w (wR w (gS x a b)):=by
 have H:Hid (∀n:Int,(if x.pt=0 then(if(a=0/\b=1)\/(a=1/\b=0)then 0 else-1)else if a=0/\(b=1\/b=2)then b else if b=0/\(a=1\/a=2)then a else-1)=n->wR w (gS x a b) (.returned (jV n)) (w.alloc (.cells #[x.id,x.pt,js A x.ends c] 80))):=fun n h=>by
  subst h;exact⟨rfl,aR⟩
 generalize gS x a b=L at *;unfold jY;go_in;go_wp2_with fail
 all_goals
  go_ret;refine H _ ?_;simp only[Da,Nd,ne_eq]at *
  repeat' split
  all_goals omega
def z3p {p:Pl}{a b:Int}{k:Nat}(c:k<p.G.length) (h1:p.G[k].sec=a) (h2:p.G[k].en=b) (H: ∀j (h:j<p.G.length),j<k->decide (p.G[j].sec=a/\p.G[j].en=b)=false):fF p a b=p.G[k].id:=by
 unfold fF;have:p.G.find? (fun x=>decide (x.sec=a/\x.en=b))=some p.G[k]:=List.find?_eq_some_iff_getElem.2 ⟨Ni ⟨h1,h2⟩,k,c,rfl,fun j hj=>by rw[H j ed hj];rfl⟩;rw[this]
def z3q {p:Pl}{a b:Int}(H: ∀j (h:j<p.G.length),decide (p.G[j].sec=a/\p.G[j].en=b)=false):fF p a b=0:=by
 unfold fF;rw[Fq.2];intro x hx;obtain⟨i,c,rfl⟩:=No hx;rw[H i c];simp
def TZ (p:Pl) (s q gg r:Value) (a b:Int) (w:World) (e:bN w s q gg r p) (f:p.Fit):jW 219 #[aT p s q gg r,a,b] w (wR w (fF p a b)):=by
 have g:Hid ((∀j (h:j<p.G.length),decide (p.G[j].sec=a/\p.G[j].en=b)=false)->fF p a b=0):=z3q;have l:Hid (∀k (c:k<p.G.length),p.G[k].sec=a->p.G[k].en=b->(∀j (h:j<p.G.length),j<k->decide (p.G[j].sec=a/\p.G[j].en=b)=false)->fF p a b=p.G[k].id):=fun k c=>z3p c;obtain⟨a3,k3,rfl,h3⟩:=e.G;have n:Hid (∀W,jb w W->aB W 3 gZ a3 k3 p.G):=fun W o=>h3.below lA o;have t:=f.G;generalize fF p a b=L at *;unfold aT;go_in;go_upto_region 1 with fail;generalize hW:World.alloc _ _=W0;have K1:=hI (jG hW)
 have P:jc W0 w 4 (js a3 p.G k3):=Qc
 have lb:=Mt P;go_wp2_with fail
 go_loop [7] (fun i=> ∃k:Nat,k<=p.G.length/\i= jV k/\ ∀j (h:j<p.G.length),j<k->decide (p.G[j].sec=a/\p.G[j].en=b)=false) (fun i=>p.G.length-(intOf i).toNat)
 case atStart=>exact⟨0,ed,rfl,fun j h h0=>by omega⟩
 case round=>
  obtain⟨k,c,rfl,d⟩:=hrel;have H:=hI d;by_cases G9:k<p.G.length
  ·have hd:=bL G9;obtain⟨B,off,rfl,x0,x1,x2⟩:=(n _ K1).sg G9;have c0:=aQ k;have c1:=aN G9;have l9:=My _ _ x0;by_cases h1:p.G[k].sec=a
   ·have e1:(p.G[k].sec==a)=true:=(by simp[h1]);by_cases h2:p.G[k].en=b
    ·have e2:(p.G[k].en==b)=true:=(by simp[h2]);have HE:=hI (l k G9 h1 h2 H);go_wp2_with fail;go_ret;exact Uk
    have e2:(p.G[k].en==b)=false:=(by simp[h2]);have HE:Hid (decide (p.G[k].sec=a/\p.G[k].en=b)=false):=(by show _=_;simp[h2]);go_wp2_with fail;go_round
    case rel=>
     refine⟨k+1,ed,ej,fun j h hj=> ?_⟩;by_cases N7:j=k
     ·exact Uf
     exact H j h ed
    case measure=>simp[intOf];omega
   have e1:(p.G[k].sec==a)=false:=(by simp[h1]);have HE:Hid (decide (p.G[k].sec=a/\p.G[k].en=b)=false):=(by show _=_;simp[h1]);go_wp2_with fail;go_round
   case rel=>
    refine⟨k+1,ed,ej,fun j h hj=> ?_⟩;by_cases N7:j=k
    ·exact Uf
    exact H j h ed
   case measure=>simp[intOf];omega
  obtain rfl:k=p.G.length:=ed;have hd:=bZ G9;have HE:=hI (g fun j hj=>H j hj hj);go_wp2_with fail;go_ret;exact Uk
def z3r (p:Pl) (s q gg r:Value) (n:Int) (w:World) (c:bN w s q gg r p) (d:p.Fit):jW 223 #[aT p s q gg r,n] w (wR w (dA (fun x=>decide (x.id=n)) p.P)):=by
 have e:Hid ((∀j (h:j<p.P.length),decide (p.P[j].id=n)=false)->dA (fun x=>decide (x.id=n)) p.P= -1):=fun h=>tJ h;have f:Hid (∀k (a:k<p.P.length),decide (p.P[k].id=n)=true->(∀j (h:j<p.P.length),j<k->decide (p.P[j].id=n)=false)->dA (fun x=>decide (x.id=n)) p.P=(k:Int)):=fun k a h1 h2=>tK a h1 h2;obtain⟨a3,k3,rfl,h3⟩:=c.P;have g:Hid (∀W,jb w W->aB W 2 iA a3 k3 p.P):=fun W l=>h3.below lT l;have o:=d.P;generalize dA (fun x=>decide (x.id=n)) p.P=L at *;unfold aT;go_in;go_upto_region 1 with fail;generalize hW:World.alloc _ _=W0;have K1:=hI (jG hW)
 have P:jc W0 w 3 (js a3 p.P k3):=Qc
 have lb:=Mt P;go_wp2_with fail
 go_loop [5] (fun i=> ∃k:Nat,k<=p.P.length/\i= jV k/\ ∀j (h:j<p.P.length),j<k->decide (p.P[j].id=n)=false) (fun i=>p.P.length-(intOf i).toNat)
 case atStart=>exact⟨0,ed,rfl,fun j h h0=>by omega⟩
 case round=>
  obtain⟨k,a,rfl,b⟩:=hrel;have H:=hI b;by_cases G9:k<p.P.length
  ·have hd:=bL G9;obtain⟨B,off,rfl,x0,x1⟩:=(g _ K1).pt G9;have c0:=aQ k;have c1:=aN G9;have l9:=My _ _ x0;by_cases h1:p.P[k].id=n
   ·have e1:(p.P[k].id==n)=true:=(by simp[h1]);have HE:=hI (f k G9 (by simp[h1]) H);go_wp2_with fail;go_ret;exact Uk
   have e1:(p.P[k].id==n)=false:=(by simp[h1]);have HE:=hI (jU h1);go_wp2_with fail;go_round
   case rel=>
    refine⟨k+1,ed,ej,fun j h hj=> ?_⟩;by_cases N7:j=k
    ·exact Uf
    exact H j h ed
   case measure=>simp[intOf];omega
  obtain rfl:k=p.P.length:=ed;have hd:=bZ G9;have HE:=hI (e fun j hj=>H j hj hj);go_wp2_with fail;go_ret;exact Uk
def z3s (l:Lk) (r:Rt) (w:World) (a:r.A.length<=17592186044416):jW 315 #[.agg #[l.id,.int .u8 l.ph,l.gone,l.left],r.A.length,r.T] w (bY w (decide (kX l r))):=by
 have H:Hid (∀(b:Bool) X,(b=true↔kX l r)->bY w (decide (kX l r)) (.returned (.bool b)) (w.alloc X)):=fun b X h=>by
  have:b=decide (kX l r):=by rw[Dh,h];simp
  subst this;exact⟨rfl,aR⟩
 generalize decide (kX l r)=L at *;go_in;go_wp2_with fail
 all_goals
  go_ret;refine H _ _ ?_;unfold kX
  try simp only[Da,Nd,ne_eq]at *
  first | omega | (simp<;>omega)
def TY {α:Type}{l m:List α}(hl:l.length=m.length) (h: ∀k (h:k<l.length) (h':k<m.length),l[k]=m[k]):l=m:=Sf hl h
def DT {C D:Option Value}{κ κ':IntKind}{u v:Int}(_:C=some (.int κ u)) (_:D=some (.int κ' v)): ∃q:Bool,(u==v)=q/\(u != v)= !q/\Hid (u=v↔q=true):=⟨u==v,rfl,rfl,by unfold Hid;simp⟩
abbrev oR {α:Type} [DecidableEq α] (N F sz:Nat) (R:World->List Value->α->Prop):Prop:= ∀(a b:Option Addr) (ca cb:Nat) (l m:List α) (w:World),aB w sz R a ca l->aB w sz R b cb m->l.length<=N->m.length<=N->jW F #[js a l ca,js b m cb] w (bY w (decide (l=m)))
def TW {x y:Pt}(h0:x.id=y.id) (h1:x.sec=y.sec):x=y:=by cases x;cases y;simp_all
def TV {x y:Sg}(h0:x.id=y.id) (h1:x.sec=y.sec) (h2:x.en=y.en):x=y:=by cases x;cases y;simp_all
def TU {x y:Tk}(h0:x.id=y.id) (h1:x.is=y.is):x=y:=by cases x;cases y;simp_all
def VC {x y:Sw}(h0:x.id=y.id) (h1:x.lie=y.lie) (h2:x.call=y.call):x=y:=by cases x;cases y;simp_all
def VB {x y:Jn}(h0:x.tt=y.tt) (h1:x.en=y.en):x=y:=by cases x;cases y;simp_all
def UZ {x y:Fl}(h0:x.pt=y.pt) (h1:x.lie=y.lie):x=y:=by cases x;cases y;simp_all
def UY {x y:Lk}(h0:x.id=y.id) (h1:x.ph=y.ph) (h2:x.gone=y.gone) (h3:x.left=y.left):x=y:=by cases x;cases y;simp_all
theorem cI:oR 1000 146 2 iA/\oR 1000 147 3 gZ/\oR 1000 148 2 nX/\oR 1000 149 3 mR/\oR 8796093022208 142 2 fI/\oR 8796093022208 145 2 lZ/\oR 1000 150 4 mS:=by
 refine⟨?F,?n,?o,?p,?q,?r,?s⟩
 all_goals
  intro a b ca Q l m w hl K v x;have h1:l.length<=8796093022208:=ed
  have h2:m.length<=8796093022208:=ed
  clear v x;have L:=hI fun W (hb:jb w W)=>hl.below (fun _ _ _ _ _ h=>h) hb;have M:=hI fun W (hb:jb w W)=>K.below (fun _ _ _ _ _ h=>h) hb;have y:Hid (l.length≠m.length->decide (l=m)=false):=fun h=>Mw fun e=>h Qn;refine Rl fun HV2=>?_;have A:Hid (∀k (h:k<l.length) (h':k<m.length),l[k]≠m[k]->decide (l=m)=false):=fun k h h' h3=>Mw fun e=>h3 Oz;clear hl K;generalize decide (l=m)=B at *
 case' F=>go_in
 case' n=>go_in
 case' o=>go_in
 case' p=>go_in
 case' q=>go_in
 case' r=>go_in
 case' s=>go_in
 all_goals
  by_cases H:l.length=m.length
  case neg=>
   have HE:=hI (y H);have td:((l:Int)==(m:Int))=false:=Ov;have T:((l:Int) != (m:Int))=true:=Vl;clear H;refine ei ?_;exact⟨ew,Nb _ _⟩
  have HLE:=hI H;have td:((l:Int)==(m:Int))=true:=Ve
  have T:((l:Int) != (m:Int))=false:=Vl
  clear H;go_wp2_with fail;go_loopg [13] l.length (fun g i wr=> ∃k:Nat,k<=l.length/\g=l.length-k/\i= jV k/\jb w wr/\ ∀j (h:j<l.length) (h':j<m.length),j<k->l[j]=m[j])
  ·exact⟨0,ed,ed,rfl,Nb _ _,fun j _ _ hj=>absurd hj (Pm _)⟩
  obtain⟨k,R,rfl,rfl,hb,ho⟩:=hrel;refine Qa fun t j9=>?_;clear hb ho;by_cases G9:k<l.length
  case neg=>
   obtain rfl:k=l.length:=ed;have hd:=bZ G9;refine ZJ fun HE=>?_;refine ei ?_;exact⟨ew,t⟩
  refine ZC fun _ f=>?_;obtain⟨g,off,U,rfl,D,c,E⟩:=(L wr t).at_ k G9;obtain⟨g2,O,V,rfl,G,d,I⟩:=(M wr t).at_ k f;cases E;cases I;have pp0:=c 0 ee;have y0:=d 0 ee;have x1:=c 1 ee;have y1:=d 1 ee;simp only[Pk,Nu,Dl]at pp0 y0 x1 y1;obtain⟨q0,t0,n0,z⟩:=DT pp0 y0;obtain⟨q1,t1,n1,Z⟩:=DT x1 y1;refine Om fun _ _=>?_;refine Qb fun _ _=>?_;have c2:=aN f
  try
   have x2:=c 2 ee;have y2:=d 2 ee;simp only[Nu,Dl]at x2 y2;obtain⟨q2,t2,n2,u⟩:=DT x2 y2;cases q2
  all_goals
   try
    have x3:=c 3 ee;have y3:=d 3 ee;simp only[Nu,Dl]at x3 y3;obtain⟨q3,t3,n3,z3⟩:=DT x3 y3;cases q3
  all_goals
   clear D c G d;cases q0<;>cases q1
  all_goals
   simp only[Hv,Hp]at n0 n1
   try simp only[Hv,Hp]at n2
   try simp only[Hv,Hp]at n3
   first
   | have N:Hid (l[k]=m[k]):=(by first | exact UY (z.2 rfl) (Z.2 rfl) (u.2 rfl) (z3.2 rfl) | exact TV (z.2 rfl) (Z.2 rfl) (u.2 rfl) | exact VC (z.2 rfl) (Z.2 rfl) (u.2 rfl) | exact TW (z.2 rfl) (Z.2 rfl) | exact TU (z.2 rfl) (Z.2 rfl) | exact VB (z.2 rfl) (Z.2 rfl) | exact UZ (z.2 rfl) (Z.2 rfl));have P:Hid (∀j (h:j<l.length) (h':j<m.length),j<k+1->l[j]=m[j]):=fun j J C j3=>(Nat.lt_or_eq_of_le (Nat.le_of_lt_succ j3)).elim (fun h=>j9 j J C h) (fun h=>by subst h;exact N)
   | have HE:=hI (A k G9 f fun e=>by first | exact Bool.noConfusion (z.1 Qn) | exact Bool.noConfusion (Z.1 Qn) | exact Bool.noConfusion (u.1 Qn) | exact Bool.noConfusion (z3.1 Qn))
   go_upto_region 6 with fail;go_quiet (fail);go_wp2_with fail
   first
   | (go_ret;exact⟨ew,dM t _⟩)
   | (go_roundg (l.length-(k+1));(case measure=>go_light;omega);(case rel=>go_light;exact⟨k+1,ed,ed,ej,dM t _,P⟩))
def z3t:oR 1000 146 2 iA:=cI.1
def z3u:oR 1000 147 3 gZ:=cI.2.1
def z3v:oR 1000 148 2 nX:=cI.2.2.1
def z3w:oR 1000 149 3 mR:=cI.2.2.2.1
def z3x:oR 8796093022208 142 2 fI:=cI.2.2.2.2.1
def z3y:oR 8796093022208 145 2 lZ:=cI.2.2.2.2.2.1
def z3z:oR 1000 150 4 mS:=cI.2.2.2.2.2.2
def kO {α:Type}(f:α->α->Bool):List α->List α->Bool
 | [],[]=>true
 | x::l,y::m=>f x y&&kO f l m
 | _,_=>false
def cA {α:Type}{f:α->α->Bool}: ∀ {l m:List α},kO f l m=true↔l.length=m.length/\ ∀i (h:i<l.length) (h':i<m.length),f l[i] m[i]=true
 | [],[]=>by simp[kO]
 | [],y::m=>by simp[kO]
 | x::l,[]=>by simp[kO]
 | x::l,y::m=>by
  rw[kO,Dt,cA];constructor
  ·rintro⟨h1,h2,h3⟩;refine⟨by simp[h2],fun i hi H=> ?_⟩;cases i with
   | zero=>exact h1
   | succ i=>exact h3 i Og (by simpa using H)
  rintro⟨h2,h3⟩;exact⟨h3 0 ee ee,by simpa using h2,fun i hi H=>h3 (i+1) Og (by simpa using H)⟩
def UX {α:Type} [DecidableEq α] (l m:List α):kO (fun x y=>decide (x=y)) l m=decide (l=m):=by
 rw[Dh,cA,Dj];constructor
 ·rintro⟨h1,h2⟩;exact Sf h1 fun i h h'=>Ib (h2 i h h')
 rintro rfl;exact⟨rfl,fun i h h'=>Ni rfl⟩
def UW {x y:aF}(h1:x.id=y.id) (h2:x.pt=y.pt) (h3:x.ends=y.ends):x=y:=by cases x;cases y;simp_all
def UV {x y:Rt}(h1:x.id=y.id) (h2:x.E=y.E) (h3:x.X=y.X) (h4:x.A=y.A) (h5:x.O=y.O) (h6:x.fl=y.fl) (h7:x.T=y.T):x=y:=by cases x;cases y;simp_all
def UT (a b:Option Addr) (ca c:Nat) (l m:List Int) (w:World) (hl:eP w (js a l ca) l) (H:eP w (js b m c) m) (h1:l.length<=17592186044416) (h2:m.length<=17592186044416):
  jW 99 #[js a l ca,js b m c] w (bY w (lH l m)):=by
 obtain⟨_,_,e1,k1⟩:=hl.at_;obtain⟨_,_,e2,k2⟩:=H.at_;cases e1;cases e2;refine(pe _ _ _ _ _ _ l m w k1 k2 ed ed).mono ?_;rintro e W h;unfold DZ at h;obtain⟨h,n,d⟩:=h;exact⟨h,by rw[d];exact dM Qy _⟩
theorem z30 (x y:aF) (a b:Option Addr) (c d:Nat) (w:World) (hx:aB w 2 fI a c x.ends) (p:aB w 2 fI b d y.ends) (h1:x.ends.length<=8796093022208) (h2:y.ends.length<=8796093022208):
  jW 141 #[.agg #[x.id,x.pt,js a x.ends c],.agg #[y.id,y.pt,js b y.ends d]] w (bY w (decide (x=y))):=by
 have HC1:=hI fun W i=>z3x a b c d x.ends y.ends W (hx.below lB i) (p.below lB i) h1 h2;refine Kd fun k=>?_;clear hx p;generalize decide (x=y)=B at *;go_enter func141,ntmps141;go_upto_region 1 with fail;obtain⟨W0,i5⟩: ∃W0,W0=(w.alloc (.cells #[x.id,x.pt,js a x.ends c] 80)).alloc (.cells #[y.id,y.pt,js b y.ends d] 80):=⟨_,rfl⟩;rw[<-i5];have K0:Hid (jb w W0):=by show Below _ _ _;rw[i5];exact aR.alloc ee _
 have N9:Hid (jk W0 w #[x.id,x.pt,js a x.ends c] 80):=by show _=_;rw[i5];exact(Nv _ _ ee).trans Oa
 have HY0:Hid (jk W0 (w+1) #[y.id,y.pt,js b y.ends d] 80):=Kg
 clear i5;refine Kf fun KR j f=>?_;have X:=ji 0 j;have q:=ji 1 j;have r:=ji 2 j;have Y:=ji 0 f;have s:=ji 1 f;have u:=ji 2 f;have L:=aD j;have v:=aD f;clear j f;by_cases h0:x.id=y.id
 ·have t:(x.id==y.id)=true:=by rw[Da];exact h0
  have l:=hI h0;clear h0;by_cases he:x.pt=y.pt
  ·have T:(x.pt==y.pt)=true:=Xv;have n:=hI he;clear he;by_cases H:x.ends=y.ends
   ·have o:=hI H;refine Ux fun A7=>?_;rw[show(decide (x.ends=y.ends))=true from Ni H]at A7;clear H;go_wp2_with fail;refine A7.mono ?_;rintro xa W3 ⟨rfl,i⟩;have g:=jh KR i;have HE:=hI (k.1 (UW l n o));refine ei ?_;exact⟨ew,jo K0 g⟩
   have HE:=hI (k.2 fun e=>H Qn);refine Ux fun A7=>?_;rw[show(decide (x.ends=y.ends))=false from Mw H]at A7;go_wp2_with fail;refine A7.mono ?_;rintro xa xb ⟨rfl,i⟩;have g:=jh KR i;have j:=jm g N9;have f:=jm g HY0;refine ei ?_;exact⟨ew,jo K0 g⟩
  have T:(x.pt==y.pt)=false:=Ui;have HE:=hI (k.2 fun e=>he Qn);refine ei ?_;exact⟨ew,jo K0 KR⟩
 have t:(x.id==y.id)=false:=by exact Ua
 have HE:=hI (k.2 fun e=>h0 Qn);refine ei ?_;exact⟨ew,jo K0 KR⟩
theorem z31 (x y:Rt) (K M F N O G:Option Addr) (P Q I R T J:Nat) (w:World) (hx:dY w (js K x.A P) (js M x.O Q) (js F x.fl I) x) (a0:dY w (js N y.A R) (js O y.O T) (js G y.fl J) y) (h1:x.fit) (h2:y.fit):
  jW 144 #[.agg #[x.id,x.E,x.X,js K x.A P,js M x.O Q,js F x.fl I,x.T],.agg #[y.id,y.E,y.X,js N y.A R,js O y.O T,js G y.fl J,y.T]] w (bY w (decide (x=y))):=by
 have A:Hid (∀W,jb w W->dY W (js K x.A P) (js M x.O Q) (js F x.fl I) x):=fun W H=>hx.below H;have C:Hid (∀W,jb w W->dY W (js N y.A R) (js O y.O T) (js G y.fl J) y):=fun W H=>a0.below H;have HC1:=hI fun W H=>UT _ _ _ _ _ _ W (A W H).A (C W H).A h1.1 h2.1;have U:=hI fun W H=>UT _ _ _ _ _ _ W (A W H).O (C W H).O h1.2.1 h2.2.1
 have V:Hid (∀W,jb w W->jW 145 #[js F x.fl I,js G y.fl J] W (bY W (decide (x.fl=y.fl)))):=fun W H=>by
  obtain⟨_,_,e1,k1⟩:=(A W H).fl;obtain⟨_,_,e2,k2⟩:=(C W H).fl;cases e1;cases e2;exact z3y _ _ _ _ _ _ W k1 k2 h1.2.2 h2.2.2
 refine Kd fun D=>?_;clear hx a0 A C;generalize decide (x=y)=B at *;go_enter func144,ntmps144;go_upto_region 1 with fail;obtain⟨W0,i5⟩: ∃W0,W0=(w.alloc (.cells #[x.id,x.E,x.X,js K x.A P,js M x.O Q,js F x.fl I,x.T] 102)).alloc (.cells #[y.id,y.E,y.X,js N y.A R,js O y.O T,js G y.fl J,y.T] 102):=⟨_,rfl⟩;rw[<-i5];have K0:Hid (jb w W0):=by show Below _ _ _;rw[i5];exact aR.alloc ee _
 have N9:Hid (jk W0 w #[x.id,x.E,x.X,js K x.A P,js M x.O Q,js F x.fl I,x.T] 102):=by show _=_;rw[i5];exact(Nv _ _ ee).trans Oa
 have HY0:Hid (jk W0 (w+1) #[y.id,y.E,y.X,js N y.A R,js O y.O T,js G y.fl J,y.T] 102):=Kg
 clear i5;refine Kf fun KR bx j7=>?_;refine ZS fun X c d k l n f Y g i o p q j L E=>?_;clear bx j7;by_cases r:x.A=y.A
 ·have Z:=hI r;refine Ux fun A7=>?_;rw[show(lH x.A y.A)=true from Ni r]at A7;clear r;go_wp2_with fail;refine A7.mono ?_;rintro xa W1 ⟨rfl,H⟩;have a:=jh KR H;clear H;clear X Y c g d i k o l p n q f j L E;have bx:=jm a N9;have j7:=jm a HY0;refine ZS fun X c d k l n f Y g i o p q j L E=>?_;clear bx j7;by_cases s:x.O=y.O
  ·have H0:=hI s;have A7:=hI (U W1 (jo K0 a));rw[show(lH x.O y.O)=true from Ni s]at A7;clear s;go_wp2_with fail;refine A7.mono ?_;rintro xa W2 ⟨rfl,H⟩;have b:=jh a H;clear H;clear X Y c g d i k o l p n q f j L E;have bx:=jm b N9;have j7:=jm b HY0;refine ZS fun X c d k l n f Y g i o p q j L E=>?_;clear bx j7;by_cases t:x.fl=y.fl
   ·have H1:=hI t;have A7:=hI (V W2 (jo K0 b));rw[show(decide (x.fl=y.fl))=true from Ni t]at A7;clear t;go_wp2_with fail;refine A7.mono ?_;rintro xa W3 ⟨rfl,H⟩;have Z8:=jh b H;clear H;clear X Y c g d i k o l p n q f j L E;have bx:=jm Z8 N9;have j7:=jm Z8 HY0;have X:=ji 0 bx;have c:=ji 1 bx;have d:=ji 2 bx;have f:=ji 6 bx;have Y:=ji 0 j7;have g:=ji 1 j7;have i:=ji 2 j7;have j:=ji 6 j7;clear bx j7;by_cases u:x.id=y.id
    ·have t0:(x.id==y.id)=true:=(by rw[Da];exact u);have H2:=hI u;clear u;by_cases v:x.E=y.E
     ·have t1:(x.E==y.E)=true:=(by rw[Da];exact v);have H3:=hI v;clear v;by_cases z:x.X=y.X
      ·have t2:(x.X==y.X)=true:=(by rw[Da];exact z);have H4:=hI z;clear z;by_cases he:x.T=y.T
       ·have t3:(x.T==y.T)=true:=(by rw[Da];exact he);have H5:=hI he;clear he;have HE:=hI (D.1 (UV H2 H3 H4 Z H0 H1 H5));refine ei ?_;exact⟨ew,jo K0 Z8⟩
       have t3:(x.T==y.T)=false:=Ui;have HE:=hI (D.2 fun e=>he Qn);clear he;refine ei ?_;exact⟨ew,jo K0 Z8⟩
      have t2:(x.X==y.X)=false:=(by rw[Nd];exact z);have HE:=hI (D.2 fun e=>z Qn);clear z;refine ei ?_;exact⟨ew,jo K0 Z8⟩
     have t1:(x.E==y.E)=false:=(by rw[Nd];exact v);have HE:=hI (D.2 fun e=>v Qn);clear v;refine ei ?_;exact⟨ew,jo K0 Z8⟩
    have t0:(x.id==y.id)=false:=(by rw[Nd];exact u);have HE:=hI (D.2 fun e=>u Qn);clear u;refine ei ?_;exact⟨ew,jo K0 Z8⟩
   have HE:=hI (D.2 fun e=>t Qn);have A7:=hI (V W2 (jo K0 b));rw[show(decide (x.fl=y.fl))=false from Mw t]at A7;clear t;go_wp2_with fail;refine A7.mono ?_;rintro xa xb ⟨rfl,H⟩;have Z8:=jh b H;clear H;clear X Y c g d i k o l p n q f j L E;refine Xt ?_;refine ei ?_;exact⟨ew,jo K0 Z8⟩
  have HE:=hI (D.2 fun e=>s Qn);have A7:=hI (U W1 (jo K0 a));rw[show(lH x.O y.O)=false from Mw s]at A7;clear s;go_wp2_with fail;refine A7.mono ?_;rintro xa xb ⟨rfl,H⟩;have b:=jh a H;clear H;clear X Y c g d i k o l p n q f j L E;have bx:=jm b N9;have j7:=jm b HY0;clear bx j7;refine ei ?_;exact⟨ew,jo K0 b⟩
 have HE:=hI (D.2 fun e=>r Qn);refine Ux fun A7=>?_;rw[show(lH x.A y.A)=false from Mw r]at A7;clear r;go_wp2_with fail;refine A7.mono ?_;rintro xa xb ⟨rfl,H⟩;have a:=jh KR H;clear H;clear X Y c g d i k o l p n q f j L E;have bx:=jm a N9;have j7:=jm a HY0;clear bx j7;refine ei ?_;exact⟨ew,jo K0 a⟩
theorem z32 (a b:Option Addr) (ca cb:Nat) (l m:List aF) (w:World) (hl:aB w 3 cU a ca l) (hm:aB w 3 cU b cb m) (h1:l.length<=1000) (h2:m.length<=1000) (he1: ∀i (h:i<l.length),l[i].ends.length<=8796093022208) (he2: ∀i (h:i<m.length),m[i].ends.length<=8796093022208):
  jW 140 #[js a l ca,js b m cb,.func (.func 141) #[] #[]] w (bY w (kO (fun x y=>decide (x=y)) l m)):=by
 have HL:Hid (∀W,jb w W->aB W 3 cU a ca l):=fun W hb=>hl.below gN hb;have HM:Hid (∀W,jb w W->aB W 3 cU b cb m):=fun W hb=>hm.below gN hb;have HE1:=hI he1;have HE2:=hI he2;clear he1 he2
 have HV1:Hid (l.length≠m.length->kO (fun x y=>decide (x=y)) l m=false):=fun h=>by
  cases hh:kO (fun x y=>decide (x=y)) l m with
  | false=>rfl
  | true=>exact absurd (cA.1 hh).1 h
 have HV2:Hid (l.length=m.length->(∀k (h:k<l.length) (h':k<m.length),(fun x y=>decide (x=y)) l[k] m[k]=true)->kO (fun x y=>decide (x=y)) l m=true):=fun h h3=>cA.2 ⟨h,h3⟩
 have HV3:Hid (∀k (h:k<l.length) (h':k<m.length),(fun x y=>decide (x=y)) l[k] m[k]=false->kO (fun x y=>decide (x=y)) l m=false):=fun k h h' h3=>by
  cases hh:kO (fun x y=>decide (x=y)) l m with
  | false=>rfl
  | true=>exact absurd (((cA.1 hh).2 k h h').symm.trans h3) eh
 clear hl hm;generalize kO (fun x y=>decide (x=y)) l m=B at *;go_in;by_cases hlen:l.length=m.length
 ·have HLE:=hI hlen;have td:((l:Int)==(m:Int))=true:=by rw[Da];omega
  have te:((l:Int) != (m:Int))=false:=Vl
  go_wp2_with fail;go_loopg [17] l.length (fun g i wr=> ∃k:Nat,k<=l.length/\g=l.length-k/\i= jV k/\jb w wr/\ ∀j (h:j<l.length) (h':j<m.length),j<k->(fun x y=>decide (x=y)) l[j] m[j]=true)
  ·exact⟨0,ed,ed,rfl,Nb _ _,fun j _ _ hj=>absurd hj (Pm _)⟩
  ·obtain⟨k,hk,rfl,rfl,hb,hno⟩:=hrel;have HB:=hI hb;have HNO:=hI hno;by_cases hlt:k<l.length
   ·have hd:=bL hlt;have hlm:k<m.length:=(by rw[<-HLE.o];exact hlt);obtain⟨g,off,xa,xc,rfl,x0,x1,x2,hxj⟩:=(HL wr HB).sec hlt;obtain⟨g2,off2,ya,yc,rfl,y0,y1,y2,hyj⟩:=(HM wr HB).sec hlm;have HXJ:Hid (∀W,jb wr W->aB W 2 fI xa xc l[k].ends):=fun W hb=>hxj.below lB hb;have HYJ:Hid (∀W,jb wr W->aB W 2 fI ya yc m[k].ends):=fun W hb=>hyj.below lB hb;have lx:=My _ _ x0;have ly:=My _ _ y0;clear hxj hyj;have c0:=aQ k;have c1:=aN hlt;have c2:=aN hlm;go_upto_region 7 with fail;obtain⟨W9,hW9⟩: ∃W9,W9=(wr.alloc (.cells #[l[k].id,l[k].pt,js xa l[k].ends.length xc] 80)).alloc (.cells #[m[k].id,m[k].pt,js ya m[k].ends.length yc] 80):=⟨_,rfl⟩;rw[<-hW9];have hb9:jb wr W9:=(by rw[hW9];exact aR.alloc ee _);have hx9:jk W9 wr #[l[k].id,l[k].pt,js xa l[k].ends.length xc] 80:=(by rw[hW9];exact(Nv _ _ ee).trans Oa);have hy9:jk W9 (wr+1) #[m[k].id,m[k].pt,js ya m[k].ends.length yc] 80:=(by rw[hW9];exact Do _ _ _);have u0x:=ji 0 hx9;have u1x:=ji 1 hx9;have u2x:=ji 2 hx9;have u0y:=ji 0 hy9;have u1y:=ji 1 hy9;have u2y:=ji 2 hy9;have HB9:=jh HB hb9;have HBX9:=hI hb9;clear hb9 hx9 hy9 hW9;have HCk:=hI (z30 l[k] m[k] xa ya xc yc W9 (HXJ W9 HBX9) (HYJ W9 HBX9) (HE1 k hlt) (HE2 k hlm));have HV3k:=hI (HV3 k hlt hlm)
    have HNk:Hid ((fun x y=>decide (x=y)) l[k] m[k]=true-> ∀j (h:j<l.length) (h':j<m.length),j<k+1->(fun x y=>decide (x=y)) l[j] m[j]=true):=fun h j j1 j2 j3=>by
     by_cases hjk:j=k
     ·subst hjk;exact h
     ·exact HNO j j1 j2 ed
    simp only[]at HV3k HNk;generalize decide (l[k]=m[k])=bk at *;cases bk with
    | true=>
     go_wp2_with fail;refine HCk.mono ?_;rintro e W3 ⟨rfl,hb⟩;have HB3:=jh HB9 hb;clear hb HCk;go_wp2_with fail;go_roundg (l.length-(k+1))
     ·go_light;exact⟨k+1,ed,ed,by go_num,HB3,HNk ee⟩
     ·go_light;omega
    | false=>
     have HE:=hI (HV3k ee);go_wp2_with fail;refine HCk.mono ?_;rintro e W3 ⟨rfl,hb⟩;have HB3:=jh HB9 hb;refine ei ?_;exact⟨ew,HB3⟩
   ·obtain rfl:k=l.length:=ed;have HE:=hI (HV2 HLE fun j j1 j2=>HNO j j1 j2 j1);refine ei ?_;exact⟨ew,HB⟩
 ·have HE:=hI (HV1 hlen);have td:((l:Int)==(m:Int))=false:=by rw[Nd];omega
  have te:((l:Int) != (m:Int))=true:=Vl
  refine ei ?_;exact⟨ew,Nb _ _⟩
theorem z33 (a b:Option Addr) (ca cb:Nat) (l m:List Rt) (w:World) (hl:aB w 7 fH a ca l) (hm:aB w 7 fH b cb m) (h1:l.length<=1000) (h2:m.length<=1000) (he1: ∀i (h:i<l.length),l[i].fit) (he2: ∀i (h:i<m.length),m[i].fit):
  jW 143 #[js a l ca,js b m cb,.func (.func 144) #[] #[]] w (bY w (kO (fun x y=>decide (x=y)) l m)):=by
 have HL:Hid (∀W,jb w W->aB W 7 fH a ca l):=fun W hb=>hl.below lS hb;have HM:Hid (∀W,jb w W->aB W 7 fH b cb m):=fun W hb=>hm.below lS hb;have HE1:=hI he1;have HE2:=hI he2;clear he1 he2
 have HV1:Hid (l.length≠m.length->kO (fun x y=>decide (x=y)) l m=false):=fun h=>by
  cases hh:kO (fun x y=>decide (x=y)) l m with
  | false=>rfl
  | true=>exact absurd (cA.1 hh).1 h
 have HV2:Hid (l.length=m.length->(∀k (h:k<l.length) (h':k<m.length),(fun x y=>decide (x=y)) l[k] m[k]=true)->kO (fun x y=>decide (x=y)) l m=true):=fun h h3=>cA.2 ⟨h,h3⟩
 have HV3:Hid (∀k (h:k<l.length) (h':k<m.length),(fun x y=>decide (x=y)) l[k] m[k]=false->kO (fun x y=>decide (x=y)) l m=false):=fun k h h' h3=>by
  cases hh:kO (fun x y=>decide (x=y)) l m with
  | false=>rfl
  | true=>exact absurd (((cA.1 hh).2 k h h').symm.trans h3) eh
 clear hl hm;generalize kO (fun x y=>decide (x=y)) l m=B at *;go_in;by_cases hlen:l.length=m.length
 ·have HLE:=hI hlen;have td:((l:Int)==(m:Int))=true:=by rw[Da];omega
  have te:((l:Int) != (m:Int))=false:=Vl
  go_wp2_with fail;go_loopg [17] l.length (fun g i wr=> ∃k:Nat,k<=l.length/\g=l.length-k/\i= jV k/\jb w wr/\ ∀j (h:j<l.length) (h':j<m.length),j<k->(fun x y=>decide (x=y)) l[j] m[j]=true)
  ·exact⟨0,ed,ed,rfl,Nb _ _,fun j _ _ hj=>absurd hj (Pm _)⟩
  ·obtain⟨k,hk,rfl,rfl,hb,hno⟩:=hrel;have HB:=hI hb;have HNO:=hI hno;by_cases hlt:k<l.length
   ·have hd:=bL hlt;have hlm:k<m.length:=(by rw[<-HLE.o];exact hlt);obtain⟨gx,ofx,xp,xo,xf,rfl,x0,x1,x2,x3,x4,x5,x6,hxm⟩:=(HL wr HB).rt hlt;obtain⟨xp1,xp2,rfl,-⟩:=hxm.A.at_;obtain⟨xo1,xo2,rfl,-⟩:=hxm.O.at_;obtain⟨xf1,xf2,rfl,-⟩:=hxm.fl;have HXJ:Hid (∀W,jb wr W->dY W (js xp1 l[k].A.length xp2) (js xo1 l[k].O.length xo2) (js xf1 l[k].fl.length xf2) l[k]):=fun W hb=>hxm.below hb;have lx:=My _ _ x0;obtain⟨gy,ofy,yp,yo,yf,rfl,y0,y1,y2,y3,y4,y5,y6,hym⟩:=(HM wr HB).rt hlm;obtain⟨yp1,yp2,rfl,-⟩:=hym.A.at_;obtain⟨yo1,yo2,rfl,-⟩:=hym.O.at_;obtain⟨yf1,yf2,rfl,-⟩:=hym.fl;have HYJ:Hid (∀W,jb wr W->dY W (js yp1 m[k].A.length yp2) (js yo1 m[k].O.length yo2) (js yf1 m[k].fl.length yf2) m[k]):=fun W hb=>hym.below hb;have ly:=My _ _ y0;clear hym;have c0:=aQ k;have c1:=aN hlt;have c2:=aN hlm;go_upto_region 7 with fail;obtain⟨W9,hW9⟩: ∃W9,W9=(wr.alloc (.cells #[l[k].id,l[k].E,l[k].X,js xp1 l[k].A.length xp2,js xo1 l[k].O.length xo2,js xf1 l[k].fl.length xf2,l[k].T] 102)).alloc (.cells #[m[k].id,m[k].E,m[k].X,js yp1 m[k].A.length yp2,js yo1 m[k].O.length yo2,js yf1 m[k].fl.length yf2,m[k].T] 102):=⟨_,rfl⟩;rw[<-hW9];have hb9:jb wr W9:=(by rw[hW9];exact aR.alloc ee _);have hx9:jk W9 wr #[l[k].id,l[k].E,l[k].X,js xp1 l[k].A.length xp2,js xo1 l[k].O.length xo2,js xf1 l[k].fl.length xf2,l[k].T] 102:=(by rw[hW9];exact(Nv _ _ ee).trans Oa);have hy9:jk W9 (wr+1) #[m[k].id,m[k].E,m[k].X,js yp1 m[k].A.length yp2,js yo1 m[k].O.length yo2,js yf1 m[k].fl.length yf2,m[k].T] 102:=(by rw[hW9];exact Do _ _ _);have u0x:=ji 0 hx9;have u1x:=ji 1 hx9;have u2x:=ji 2 hx9;have u3x:=ji 3 hx9;have u4x:=ji 4 hx9;have u5x:=ji 5 hx9;have u6x:=ji 6 hx9
    have u0y:=ji 0 hy9;have u1y:=ji 1 hy9;have u2y:=ji 2 hy9;have u3y:=ji 3 hy9;have u4y:=ji 4 hy9;have u5y:=ji 5 hy9;have u6y:=ji 6 hy9;have HB9:=jh HB hb9;have HBX9:=hI hb9;clear hb9 hx9 hy9 hW9;have HCk:=hI (z31 l[k] m[k] xp1 xo1 xf1 yp1 yo1 yf1 xp2 xo2 xf2 yp2 yo2 yf2 W9 (HXJ W9 HBX9) (HYJ W9 HBX9) (HE1 k hlt) (HE2 k hlm));have HV3k:=hI (HV3 k hlt hlm)
    have HNk:Hid ((fun x y=>decide (x=y)) l[k] m[k]=true-> ∀j (h:j<l.length) (h':j<m.length),j<k+1->(fun x y=>decide (x=y)) l[j] m[j]=true):=fun h j j1 j2 j3=>by
     by_cases hjk:j=k
     ·subst hjk;exact h
     ·exact HNO j j1 j2 ed
    simp only[]at HV3k HNk;generalize decide (l[k]=m[k])=bk at *;cases bk with
    | true=>
     go_wp2_with fail;refine HCk.mono ?_;rintro e W3 ⟨rfl,hb⟩;have HB3:=jh HB9 hb;clear hb HCk;go_wp2_with fail;go_roundg (l.length-(k+1))
     ·go_light;exact⟨k+1,ed,ed,by go_num,HB3,HNk ee⟩
     ·go_light;omega
    | false=>
     have HE:=hI (HV3k ee);go_wp2_with fail;refine HCk.mono ?_;rintro e W3 ⟨rfl,hb⟩;have HB3:=jh HB9 hb;refine ei ?_;exact⟨ew,HB3⟩
   ·obtain rfl:k=l.length:=ed;have HE:=hI (HV2 HLE fun j j1 j2=>HNO j j1 j2 j1);refine ei ?_;exact⟨ew,HB⟩
 ·have HE:=hI (HV1 hlen);have td:((l:Int)==(m:Int))=false:=by rw[Nd];omega
  have te:((l:Int) != (m:Int))=true:=Vl
  refine ei ?_;exact⟨ew,Nb _ _⟩
end Go.Proofs.YtbiehpjhhopjaaaGreat
