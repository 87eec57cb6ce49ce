/-
 Plans,states and areas as plain data.
-/
set_option linter.unusedVariables false
set_option linter.unusedSimpArgs false
set_option maxRecDepth 100000
set_option maxHeartbeats 16000000
namespace Go.Proofs.YtbiehpjhhopjaaaGreat
structure Jn where
 to:Int
 en:Int
structure Sec where
 id:Int
 pt:Int
 ends:List Jn
structure Pt where
 id:Int
 sec:Int
structure Sg where
 id:Int
 sec:Int
 en:Int
structure Fl where
 pt:Int
 lie:Int
structure Rt where
 id:Int
 E:Int
 X:Int
 A:List Int
 O:List Int
 fl:List Fl
 T:Int
structure Pl where
 ver:Int
 par:Int
 S:List Sec
 P:List Pt
 G:List Sg
 R:List Rt
structure Ask where
 pt:Int
 lie:Int
 pl:Int
structure Wy where
 A:List Int
 O:List Int
 asks:List Ask
 near:Int
structure Tk where
 id:Int
 is:Int
structure Sw where
 id:Int
 lie:Int
 call:Int
structure Lk where
 id:Int
 ph:Int
 gone:Int
 left:Int
structure St where
 tks:List Tk
 sws:List Sw
 lks:List Lk
instance:DecidableEq Jn:=fun a b=>decidable_of_iff (a.to=b.to∧a.en=b.en) (by cases a;cases b;simp)
instance:DecidableEq Sec:=fun a b=>decidable_of_iff (a.id=b.id∧a.pt=b.pt∧a.ends=b.ends) (by cases a;cases b;simp)
instance:DecidableEq Pt:=fun a b=>decidable_of_iff (a.id=b.id∧a.sec=b.sec) (by cases a;cases b;simp)
instance:DecidableEq Sg:=fun a b=>decidable_of_iff (a.id=b.id∧a.sec=b.sec∧a.en=b.en) (by cases a;cases b;simp)
instance:DecidableEq Fl:=fun a b=>decidable_of_iff (a.pt=b.pt∧a.lie=b.lie) (by cases a;cases b;simp)
instance:DecidableEq Rt:=fun a b=>decidable_of_iff (a.id=b.id∧a.E=b.E∧a.X=b.X∧a.A=b.A∧a.O=b.O∧a.fl=b.fl∧a.T=b.T) (by cases a;cases b;simp)
instance:DecidableEq Ask:=fun a b=>decidable_of_iff (a.pt=b.pt∧a.lie=b.lie∧a.pl=b.pl) (by cases a;cases b;simp)
instance:DecidableEq Tk:=fun a b=>decidable_of_iff (a.id=b.id∧a.is=b.is) (by cases a;cases b;simp)
instance:DecidableEq Sw:=fun a b=>decidable_of_iff (a.id=b.id∧a.lie=b.lie∧a.call=b.call) (by cases a;cases b;simp)
instance:DecidableEq Lk:=fun a b=>decidable_of_iff (a.id=b.id∧a.ph=b.ph∧a.gone=b.gone∧a.left=b.left) (by cases a;cases b;simp)
def Rt.fit (r:Rt):Prop:=r.A.length≤17592186044416∧r.O.length≤17592186044416∧r.fl.length≤8796093022208
structure Pl.Fit (p:Pl):Prop where
 S:p.S.length≤1000
 ends: ∀i (h:i<p.S.length),p.S[i].ends.length≤8796093022208
 P:p.P.length≤1000
 G:p.G.length≤1000
 R:p.R.length≤1000
 rt: ∀i (h:i<p.R.length),p.R[i].fit
def St.fit (s:St):Prop:=s.tks.length≤1000∧s.sws.length≤1000∧s.lks.length≤1000
def Sec.Shaped (s:Sec):Prop:=(s.pt=0∧s.ends.length=2)∨(1≤s.pt∧s.pt≤99∧s.ends.length=3)
instance (s:Sec):Decidable s.Shaped:=by unfold Sec.Shaped;exact inferInstance
def zdf (l:List Sec) (s:Sec) (e:Nat) (j:Jn):Prop:=
 (j.to=0∧j.en=0)∨(¬(j.to=s.id∧j.en=e)∧ ∃t∈l,t.id=j.to∧0≤j.en∧t.ends[j.en.toNat]? =some ⟨s.id,e⟩)
instance (l:List Sec) (s:Sec) (e:Nat) (j:Jn):Decidable (zdf l s e j):=by unfold zdf;exact inferInstance
def za4 (l:List Sec) (k:Nat):Prop:=
 ∀i (h:i<l.length),i<k→(1≤l[i].id∧l[i].id≤99∧l[i].Shaped)∧ ∀m (hm:m<i),l[m].id<l[i].id∧(l[i].pt≠0→l[m].pt≠l[i].pt)
def zel (l:List Sec) (k:Nat):Prop:= ∀i (h:i<l.length),i<k→ ∀e (he:e<l[i].ends.length),zdf l l[i] e l[i].ends[e]
def zb8 (l:List Sec):Prop:=l.length≤16∧za4 l l.length∧zel l l.length
instance (l:List Sec) (k:Nat):Decidable (za4 l k):=by unfold za4;exact inferInstance
instance (l:List Sec) (k:Nat):Decidable (zel l k):=by unfold zel;exact inferInstance
instance (l:List Sec):Decidable (zb8 l):=by unfold zb8;exact inferInstance
def fix {α:Type}(p:α→Bool) (l:List α):Int:=match l.findIdx? p with | some i=>(i:Int) | none=> -1
theorem zfw {α:Type}{p:α→Bool}{l:List α}{k:Nat}(hk:k<l.length) (hp:p l[k]=true) (hno: ∀j (h:j<l.length),j<k→p l[j]=false):fix p l=k:=by
 unfold fix;have:l.findIdx? p=some k:=List.findIdx?_eq_some_iff_getElem.2 ⟨hk,hp,fun j hj=>by rw[hno j (by omega) hj];simp⟩;rw[this]
theorem zfx {α:Type}{p:α→Bool}{l:List α}(hno: ∀j (h:j<l.length),p l[j]=false):fix p l= -1:=by
 unfold fix
 have:l.findIdx? p=none:=List.findIdx?_eq_none_iff.2 fun x hx=>by
  obtain⟨i,hi,rfl⟩:=List.getElem_of_mem hx;exact hno i hi
 rw[this]
theorem zce {α:Type}(p:α→Bool) (l:List α):(fix p l= -1∧ ∀j (h:j<l.length),p l[j]=false)∨ ∃k,∃h:k<l.length,fix p l=(k:Int)∧p l[k]=true∧ ∀j (h:j<l.length),j<k→p l[j]=false:=by
 unfold fix;cases hf:l.findIdx? p with
 | none=>exact .inl ⟨rfl,fun j h=>List.findIdx?_eq_none_iff.1 hf _ (List.getElem_mem h)⟩
 | some k=>
  obtain⟨h1,h2,h3⟩:=List.findIdx?_eq_some_iff_getElem.1 hf;exact .inr ⟨k,h1,rfl,h2,fun j h hj=>by have:=h3 j hj;simpa using this⟩
def zat {α:Type}(f:α→Int) (l:List α) (k:Nat):Prop:= ∀i (h:i<l.length),i<k→(1≤f l[i]∧f l[i]≤99)∧ ∀h':0<i,f l[i-1]<f l[i]
instance {α:Type}(f:α→Int) (l:List α) (k:Nat):Decidable (zat f l k):=by unfold zat;exact inferInstance
def zbj (l:List Sec) (k:Nat):Nat:=((l.take k).filter fun s=>decide (s.pt≠0)).length
def zcl (l:List Sec) (k:Nat) (q:Nat):Int:=match (l.take k).find? (fun s=>decide (0<q∧s.pt=(q:Int)))with | some s=>s.id | none=>0
def zcf (p:Pl):Prop:=(zat Pt.id p.P p.P.length∧(p.P.length:Int)≤6)∧zbj p.S p.S.length=p.P.length∧ ∀i (h:i<p.P.length),∃s∈p.S,s.id=p.P[i].sec∧s.pt=p.P[i].id
instance (p:Pl):Decidable (zcf p):=by unfold zcf;exact inferInstance
theorem zl2 (l:List Sec):zbj l 0=0:=by simp[zbj]
theorem zl3 {l:List Sec}{k:Nat}(h:k<l.length):zbj l (k+1)=zbj l k+if l[k].pt≠0 then 1 else 0:=by
 unfold zbj;rw[List.take_succ_eq_append_getElem h,List.filter_append,List.length_append]
 congr 1
 by_cases e:l[k].pt≠0<;>simp[e]
theorem zih (l:List Sec) (k:Nat):zbj l k≤l.length:=by
 unfold zbj;exact Nat.le_trans (List.length_filter_le _ _) (by rw[List.length_take];omega)
theorem zqw (l:List Sec) (q:Nat):zcl l 0 q=0:=by simp[zcl]
theorem zqx {l:List Sec}{k:Nat}(h:k<l.length) (h0: ¬0<l[k].pt) (q:Nat):zcl l k q=zcl l (k+1) q:=by
 unfold zcl;rw[List.take_succ_eq_append_getElem h,List.find?_append]
 have hn:[l[k]].find? (fun s=>decide (0<q∧s.pt=(q:Int)))=none:=by
  rw[List.find?_eq_none];intro x hx;rw[List.mem_singleton]at hx;subst hx;simp;omega
 rw[hn];cases (l.take k).find? (fun s=>decide (0<q∧s.pt=(q:Int)))<;>rfl
theorem zqy {l:List Sec}{k:Nat}(h:k<l.length) (hA:za4 l l.length) (p:Nat) (h0:0<p) (hp:l[k].pt=(p:Int)) (q:Nat):(if q=p then l[k].id else zcl l k q)=zcl l (k+1) q:=by
 unfold zcl;rw[List.take_succ_eq_append_getElem h,List.find?_append];by_cases hq:q=p
 ·subst hq;rw[if_pos rfl]
  have hn:(l.take k).find? (fun s=>decide (0<q∧s.pt=(q:Int)))=none:=by
   rw[List.find?_eq_none];intro x hx;obtain⟨i,hi,rfl⟩:=List.getElem_of_mem hx;rw[List.length_take]at hi;rw[List.getElem_take];have:=((hA k h h).2 i (by omega)).2 (by omega);simp;omega
  rw[hn];simp[hp,h0]
 ·rw[if_neg hq]
  have hn:[l[k]].find? (fun s=>decide (0<q∧s.pt=(q:Int)))=none:=by
   rw[List.find?_eq_none];intro x hx;rw[List.mem_singleton]at hx;subst hx;simp;omega
  rw[hn];cases (l.take k).find? (fun s=>decide (0<q∧s.pt=(q:Int)))<;>rfl
theorem zqz {l:List Sec}(hA:za4 l l.length) (q:Nat) (h0:0<q) (n:Int):(n≠0∧zcl l l.length q=n)↔ ∃s∈l,s.id=n∧s.pt=(q:Int):=by
 unfold zcl;rw[List.take_length];constructor
 ·rintro⟨h1,h2⟩;cases hf:l.find? (fun s=>decide (0<q∧s.pt=(q:Int)))with
  | none=>rw[hf]at h2;exact absurd h2.symm h1
  | some s=>
   rw[hf]at h2;have h3:=List.find?_some hf;simp at h3;exact⟨s,List.mem_of_find?_eq_some hf,h2,h3.2⟩
 ·rintro⟨s,hs,h1,h2⟩;obtain⟨i,hi,rfl⟩:=List.getElem_of_mem hs;have hid:=(hA i hi hi).1;refine⟨by omega,?_⟩;cases hf:l.find? (fun s=>decide (0<q∧s.pt=(q:Int)))with
  | none=>
   have:=List.find?_eq_none.1 hf l[i] (List.getElem_mem hi);simp[h2,h0]at this
  | some t=>
   have h3:=List.find?_some hf;simp at h3;obtain⟨j,hj,rfl⟩:=List.getElem_of_mem (List.mem_of_find?_eq_some hf)
   have:i=j:=by
    rcases Nat.lt_trichotomy i j with h | h | h
    ·have:=((hA j hj hj).2 i h).2 (by omega);omega
    ·exact h
    ·have:=((hA i hi hi).2 j h).2 (by omega);omega
   subst this;exact h1
def za1 {α:Type}(f:α→Int) (z:α) (l:List α) (n:Int):α:=(l.find? fun x=>decide (f x=n)).getD z
def za2 {α:Type}(f:α→Int) (l:List α) (n:Int):Bool:=l.any fun x=>decide (f x=n)
theorem zju {α:Type}{f:α→Int}{z:α}{l:List α}{n:Int}(h: ∀j (h:j<l.length),decide (f l[j]=n)=false):za1 f z l n=z∧za2 f l n=false:=by
 constructor
 ·unfold za1;rw[List.find?_eq_none.2]
  ·rfl
  ·intro x hx;obtain⟨i,hi,rfl⟩:=List.getElem_of_mem hx;simp[h i hi]
 ·unfold za2;rw[List.any_eq_false];intro x hx;obtain⟨i,hi,rfl⟩:=List.getElem_of_mem hx;simp[h i hi]
theorem zfy {α:Type}{f:α→Int}{z:α}{l:List α}{n:Int}{k:Nat}(hk:k<l.length) (h1:decide (f l[k]=n)=true) (h2: ∀j (h:j<l.length),j<k→decide (f l[j]=n)=false):za1 f z l n=l[k]∧za2 f l n=true:=by
 constructor
 ·unfold za1;have:(l.find? fun x=>decide (f x=n))=some l[k]:=List.find?_eq_some_iff_getElem.2 ⟨h1,k,hk,rfl,fun j hj=>by rw[h2 j (by omega) hj];rfl⟩;rw[this];rfl
 ·unfold za2;rw[List.any_eq_true];exact⟨l[k],List.getElem_mem hk,h1⟩
theorem ze8 {α:Type}{f:α→Int}{z:α}{l:List α}{n:Int}(h:za2 f l n=true):za1 f z l n∈l∧f (za1 f z l n)=n:=by
 unfold za2 at h;rw[List.any_eq_true]at h;obtain⟨x,hx,h1⟩:=h;unfold za1;cases hf:l.find? fun x=>decide (f x=n)with
 | none=>exact absurd h1 (by have:=List.find?_eq_none.1 hf x hx;simpa using this)
 | some y=>exact⟨List.mem_of_find?_eq_some hf,by have:=List.find?_some hf;simpa using this⟩
def zds (f:Nat→Int) (n:Int):Prop:=0≤n∧n≤99∧0<f n.toNat
instance (f:Nat→Int) (n:Int):Decidable (zds f n):=by unfold zds;exact inferInstance
def zfj (f:Nat→Int) (x:Sg):Prop:=zds f x.sec∧0≤x.en∧x.en<f x.sec.toNat
instance (f:Nat→Int) (x:Sg):Decidable (zfj f x):=by unfold zfj;exact inferInstance
def ze9 (f:Nat→Int) (l:List Sg) (k:Nat):Prop:= ∀i (h:i<l.length),i<k→zfj f l[i]∧ ∀m (hm:m<i),¬(l[m].sec=l[i].sec∧l[m].en=l[i].en)
instance (f:Nat→Int) (l:List Sg) (k:Nat):Decidable (ze9 f l k):=by unfold ze9;exact inferInstance
def zcm (f:Nat→Int) (l:List Sg):Prop:=(zat Sg.id l l.length∧(l.length:Int)≤10)∧ze9 f l l.length
instance (f:Nat→Int) (l:List Sg):Decidable (zcm f l):=by unfold zcm;exact inferInstance
def zga (x:Sg):Nat:=x.sec.toNat * 3+x.en.toNat
def zem (l:List Sg) (k:Nat) (q:Nat):Bool:=(l.take k).any fun x=>decide (zga x=q)
theorem zq0 (l:List Sg) (q:Nat):zem l 0 q=false:=by simp[zem]
theorem zq1 {l:List Sg}{k:Nat}(h:k<l.length) (p:Nat) (hp:zga l[k]=p) (q:Nat):(if q=p then true else zem l k q)=zem l (k+1) q:=by
 unfold zem;rw[List.take_succ_eq_append_getElem h,List.any_append];by_cases hq:q=p
 ·rw[if_pos hq];simp[hp,hq]
 ·rw[if_neg hq];have: ¬p=q:=fun e=>hq e.symm;simp[hp,this]
theorem zl4 {f:Nat→Int}(h3: ∀q,f q≤3){x y:Sg}(hx:zfj f x) (hy:zfj f y):zga x=zga y↔(x.sec=y.sec∧x.en=y.en):=by
 obtain⟨⟨a1,a2,a3⟩,a4,a5⟩:=hx;obtain⟨⟨b1,b2,b3⟩,b4,b5⟩:=hy;have:=h3 x.sec.toNat;have:=h3 y.sec.toNat;unfold zga;omega
theorem zq2 {f:Nat→Int}(h3: ∀q,f q≤3){l:List Sg}{k:Nat}(h:k<l.length) (hA:ze9 f l k) (hk:zfj f l[k]):
  zem l k (zga l[k])=true↔ ¬ ∀m (hm:m<k),¬(l[m].sec=l[k].sec∧l[m].en=l[k].en):=by
 unfold zem;rw[List.any_eq_true];constructor
 ·rintro⟨x,hx,hp⟩ hall;obtain⟨i,hi,rfl⟩:=List.getElem_of_mem hx;rw[List.length_take]at hi;rw[List.getElem_take]at hp;simp only[decide_eq_true_eq]at hp;exact hall i (by omega) ((zl4 h3 (hA i (by omega) (by omega)).1 hk).1 hp)
 ·intro hn;simp only[Classical.not_forall,Classical.not_not]at hn;obtain⟨m,hm,he⟩:=hn;refine⟨l[m],List.mem_iff_getElem.2 ⟨m,by rw[List.length_take];omega,by rw[List.getElem_take]⟩,?_⟩;simp only[decide_eq_true_eq];exact(zl4 h3 (hA m (by omega) (by omega)).1 hk).2 he
theorem zq3 {f:Nat→Int}{l:List Sg}{k:Nat}(h:k<l.length) (hA:ze9 f l k) (hk:zfj f l[k]) (hno: ∀m (hm:m<k),¬(l[m].sec=l[k].sec∧l[m].en=l[k].en)):ze9 f l (k+1):=by
 intro i hi hik;rcases Nat.lt_or_ge i k with h' | h'
 ·exact hA i hi h'
 ·obtain rfl:i=k:=by omega
  exact⟨hk,hno⟩
def zd8 (l:List Sg) (r:Rt):Prop:=
 za2 Sg.id l r.E=true∧(r.X≠0→za2 Sg.id l r.X=true∧r.X≠r.E)∧(r.X=0→r.O.length=0)∧
 1≤r.A.length∧r.A.length≤6∧r.O.length≤2∧r.fl.length≤3∧1≤r.T∧r.T≤9
instance (l:List Sg) (r:Rt):Decidable (zd8 l r):=by unfold zd8;exact inferInstance
def zen (f:Nat→Int) (e:Int) (l:List Int) (k:Nat):Prop:= ∀i (h:i<l.length),i<k→zds f l[i]∧l[i]≠e∧ ∀m (hm:m<i),l[m]≠l[i]
instance (f:Nat→Int) (e:Int) (l:List Int) (k:Nat):Decidable (zen f e l k):=by unfold zen;exact inferInstance
def zhj (q:List Pt) (l:List Fl) (i:Nat) (h:i<l.length):Prop:=za2 Pt.id q l[i].pt=true∧(∀h':0<i,l[i-1].pt<l[i].pt)∧(l[i].lie=1∨l[i].lie=2)
instance (q:List Pt) (l:List Fl) (i:Nat) (h:i<l.length):Decidable (zhj q l i h):=by unfold zhj;exact inferInstance
def FlA (q:List Pt) (l:List Fl) (k:Nat):Prop:= ∀i (h:i<l.length),i<k→zhj q l i h
instance (q:List Pt) (l:List Fl) (k:Nat):Decidable (FlA q l k):=by unfold FlA;exact inferInstance
def zhk (l:List Sg) (r:Rt):Int:=(za1 Sg.id ⟨0,0,0⟩ l r.E).sec
def zb2 (f:Nat→Int) (l:List Sg) (q:List Pt) (r:Rt):Prop:=
 zd8 l r∧zen f (zhk l r) (r.A++r.O) (r.A++r.O).length∧FlA q r.fl r.fl.length
instance (f:Nat→Int) (l:List Sg) (q:List Pt) (r:Rt):Decidable (zb2 f l q r):=by unfold zb2;exact inferInstance
def zdk (e:Int) (l:List Int) (k:Nat) (q:Nat):Bool:=decide ((q:Int)=e) || (l.take k).any fun x=>decide (x=(q:Int))
theorem zq4 (e:Int) (l:List Int) (q:Nat):zdk e l 0 q=decide ((q:Int)=e):=by simp[zdk]
theorem zq5 (e:Int){l:List Int}{k:Nat}(h:k<l.length) (p:Nat) (hp:l[k]=(p:Int)) (q:Nat):(if q=p then true else zdk e l k q)=zdk e l (k+1) q:=by
 unfold zdk;rw[List.take_succ_eq_append_getElem h,List.any_append];by_cases hq:q=p
 ·rw[if_pos hq];simp[hp,hq]
 ·rw[if_neg hq];have: ¬(p:Int)=(q:Int):=by omega
  simp[hp,this]
theorem zq6 (e:Int){l:List Int}{k:Nat}(h:k<l.length) (p:Nat) (hp:l[k]=(p:Int)):zdk e l k p=true↔ ¬(l[k]≠e∧ ∀m (hm:m<k),l[m]≠l[k]):=by
 unfold zdk;rw[hp];constructor
 ·intro hx;rintro⟨h1,h2⟩;rw[Bool.or_eq_true]at hx;rcases hx with hx | hx
  ·exact h1 (by simpa using hx)
  ·rw[List.any_eq_true]at hx;obtain⟨x,hx,hp'⟩:=hx;obtain⟨i,hi,rfl⟩:=List.getElem_of_mem hx;rw[List.length_take]at hi;rw[List.getElem_take]at hp';exact h2 i (by omega) (by simpa using hp')
 ·intro hn;rw[Bool.or_eq_true];by_cases h1:(p:Int)=e
  ·exact .inl (by simpa using h1)
  ·right;have h2: ¬ ∀m (hm:m<k),l[m]≠(p:Int):=fun h2=>hn ⟨h1,h2⟩;simp only[Classical.not_forall,Ne,Classical.not_not]at h2;obtain⟨m,hm,he⟩:=h2;rw[List.any_eq_true];exact⟨l[m],List.mem_iff_getElem.2 ⟨m,by rw[List.length_take];omega,by rw[List.getElem_take]⟩,by simpa using he⟩
theorem zq7 {f:Nat→Int}{e:Int}{l:List Int}{k:Nat}(h:k<l.length) (hA:zen f e l k) (hk:zds f l[k]∧l[k]≠e∧ ∀m (hm:m<k),l[m]≠l[k]):zen f e l (k+1):=by
 intro i hi hik;rcases Nat.lt_or_ge i k with h' | h'
 ·exact hA i hi h'
 ·obtain rfl:i=k:=by omega
  exact hk
theorem zii {q:List Pt}{l:List Fl}{k:Nat}(h:k<l.length) (hA:FlA q l k) (hk:zhj q l k h):FlA q l (k+1):=by
 intro i hi hik;rcases Nat.lt_or_ge i k with h' | h'
 ·exact hA i hi h'
 ·obtain rfl:i=k:=by omega
  exact hk
def zgb (p:Pl):Prop:=1≤p.ver∧p.ver≤2147483647∧0≤p.par∧p.par<p.ver∧zb8 p.S
instance (p:Pl):Decidable (zgb p):=by unfold zgb;exact inferInstance
def zgx (f:Nat→Int) (p:Pl):Prop:=zcf p∧zcm f p.G∧(zat Rt.id p.R p.R.length∧(p.R.length:Int)≤16)
instance (f:Nat→Int) (p:Pl):Decidable (zgx f p):=by unfold zgx;exact inferInstance
def zgc (f:Nat→Int) (p:Pl) (k:Nat):Prop:= ∀i (h:i<p.R.length),i<k→zb2 f p.G p.P p.R[i]
instance (f:Nat→Int) (p:Pl) (k:Nat):Decidable (zgc f p k):=by unfold zgc;exact inferInstance
theorem zq8 {f:Nat→Int}{p:Pl}{k:Nat}(h:k<p.R.length) (hA:zgc f p k) (hk:zb2 f p.G p.P p.R[k]):zgc f p (k+1):=by
 intro i hi hik;rcases Nat.lt_or_ge i k with h' | h'
 ·exact hA i hi h'
 ·obtain rfl:i=k:=by omega
  exact hk
def zfa (pt a b:Int):Int:=
 if pt=0 then(if(a=0∧b=1)∨(a=1∧b=0)then 3 else 0)
 else if(a=0∧b=1)∨(a=1∧b=0)then 1
 else if(a=0∧b=2)∨(a=2∧b=0)then 2 else 0
def zc3 (s:Sec) (a b:Int):Int:=if¬s.Shaped then 8 else if a<0∨2<a∨b<0∨2<b∨zfa s.pt a b=0 then 2 else 0
def zdt (s:Sec) (a b:Int):Int:=if zc3 s a b=0 then(zfa s.pt a b).tmod 3 else 0
structure Wk where
 inn:Jn
 asks:List Ask
 outs:List Jn
 lost:Bool
def zcy:Sec:=⟨0,0,[]⟩
def zez (l:List Sec) (k:Wk) (id:Int):Prop:=za2 Sec.id l id=true∧k.inn.to=id
instance (l:List Sec) (k:Wk) (id:Int):Decidable (zez l k id):=by unfold zez;exact inferInstance
def zcs (l:List Sec) (k:Wk) (id:Int):Sec:=if zez l k id then za1 Sec.id zcy l id else zcy
def wkS (l:List Sec) (k:Wk) (id:Int):Wk:=if zez l k id then k else {k with lost:=true}
def zb9 (k:Wk) (pt lie pl:Int):Wk:=if 0<pt∧0<lie then {k with asks:=k.asks++[⟨pt,lie,pl⟩]}else k
def zd9 (s:Sec) (k:Wk) (right:Nat→Jn→Bool) (e:Nat):Bool:= !k.lost&&decide (zc3 s k.inn.en e=0)&&right e (s.ends.getD e ⟨0,0⟩)
def zdg (s:Sec) (k:Wk) (id pl:Int) (right:Nat→Jn→Bool):Wk:=
 match (List.range s.ends.length).find? (zd9 s k right)with
 | some e=>{zb9 k s.pt (zdt s k.inn.en e) pl with inn:=s.ends.getD e ⟨0,0⟩,outs:=k.outs++[⟨id,e⟩]}
 | none=>{k with lost:=true}
def zcz (l:List Sec) (k:Wk) (id pl:Int) (right:Nat→Jn→Bool):Wk:=zdg (zcs l k id) (wkS l k id) id pl right
def zew (l:List Sec) (k:Wk) (id pl:Int):Wk:=
 if(wkS l k id).lost=false∧0<k.inn.en then zb9 (wkS l k id) (zcs l k id).pt k.inn.en pl else wkS l k id
def zSg:Sg:=⟨0,0,0⟩
def zbe (p:Pl) (id:Int):Sg:=za1 Sg.id zSg p.G id
def zaa (r:Rt):List Int:=r.A++r.O
def zhl (p:Pl) (r:Rt):Jn:=(za1 Sec.id zcy p.S (zbe p r.E).sec).ends.getD (zbe p r.E).en.toNat ⟨0,0⟩
def zfk (_:Nat) (j:Jn):Bool:=decide (j.to=0∧j.en=0)
def zfz (s:Int) (x:Sg) (e:Nat) (_:Jn):Bool:=decide (s=x.sec∧(e:Int)=x.en)
def zgd (n:Int) (_:Nat) (j:Jn):Bool:=decide (j.to=n)
def za8 (p:Pl) (r:Rt) (i:Nat) (k:Wk):Wk:=
 if i+1=r.A.length∧r.X=0 then zcz p.S k ((zaa r).getD i 0) i zfk
 else if i+1=r.A.length then zcz p.S k ((zaa r).getD i 0) i (zfz ((zaa r).getD i 0) (zbe p r.X))
 else if i+1=(zaa r).length then zew p.S k ((zaa r).getD i 0) i
 else zcz p.S k ((zaa r).getD i 0) i (zgd ((zaa r).getD (i+1) 0))
def za7 (p:Pl) (r:Rt):Nat→Wk
 | 0=>⟨zhl p r,[],[],false⟩
 | i+1=>za8 p r i (za7 p r i)
def zcg (p:Pl) (r:Rt):Wk:=za7 p r (zaa r).length
def zbg (k:Wk) (l:List Fl):Nat→Wk
 | 0=>k
 | i+1=>zb9 (zbg k l i) (l.getD i ⟨0,0⟩).pt (l.getD i ⟨0,0⟩).lie (-1)
def zjv (p:Pl) (r:Rt):Wk:=zbg (zcg p r) r.fl r.fl.length
def zao (p:Pl) (r:Rt):Wy:=⟨r.A,r.O,(zjv p r).asks,(zbe p r.E).sec⟩
def zbk (p:Pl) (r:Rt):List Jn:=(zcg p r).outs
theorem zl5 {f:Nat→Bool}{n k:Nat}(hk:k<n) (h1:f k=true) (h2: ∀e,e<k→f e=false):(List.range n).find? f=some k:=by
 rw[List.find?_range_eq_some];exact⟨h1,List.mem_range.2 hk,fun e he=>by rw[h2 e he];rfl⟩
theorem zq9 {f:Nat→Bool}{n:Nat}(h2: ∀e,e<n→f e=false):(List.range n).find? f=none:=by
 rw[List.find?_range_eq_none];exact fun e he=>by rw[h2 e he];rfl
theorem zra {s:Sec}{k:Wk}{id pl:Int}{right:Nat→Jn→Bool}{e:Nat}(hk:e<s.ends.length) (h1:zd9 s k right e=true) (h2: ∀i,i<e→zd9 s k right i=false):
  zdg s k id pl right={zb9 k s.pt (zdt s k.inn.en e) pl with inn:=s.ends[e],outs:=k.outs++[⟨id,e⟩]}:=by
 unfold zdg;rw[zl5 hk h1 h2];simp[List.getD_eq_getElem?_getD,List.getElem?_eq_getElem hk]
theorem zrb {s:Sec}{k:Wk}{id pl:Int}{right:Nat→Jn→Bool}(h2: ∀i,i<s.ends.length→zd9 s k right i=false):zdg s k id pl right={k with lost:=true}:=by
 unfold zdg;rw[zq9 h2]
theorem zij (k:Wk) (a b c:Int):(zb9 k a b c).outs=k.outs:=by unfold zb9;split<;>rfl
theorem zjw (k:Wk) (a b c:Int):(zb9 k a b c).asks.length≤k.asks.length+1:=by unfold zb9;split<;>simp
theorem zf0 (l:List Sec) (k:Wk) (id:Int):(wkS l k id).asks=k.asks:=by unfold wkS;split<;>rfl
theorem zge (l:List Sec) (k:Wk) (id:Int):(wkS l k id).outs=k.outs:=by unfold wkS;split<;>rfl
theorem zrc (l:List Sec) (k:Wk) (id:Int):(wkS l k id).inn=k.inn:=by unfold wkS;split<;>rfl
theorem zl6 (l:List Sec) (k:Wk) (id:Int) (h:k.lost=true):(wkS l k id).lost=true:=by unfold wkS;split<;>simp[h]
theorem zrd (s:Sec) (k:Wk) (id pl:Int) (right:Nat→Jn→Bool):(zdg s k id pl right).asks.length≤k.asks.length+1∧(zdg s k id pl right).outs.length≤k.outs.length+1:=by
 unfold zdg;split
 ·exact⟨zjw _ _ _ _,by simp⟩
 ·exact⟨by simp,by simp⟩
theorem zl7 (s:Sec) (k:Wk) (id pl:Int) (right:Nat→Jn→Bool) (h:(zdg s k id pl right).lost=false):k.lost=false∧(zdg s k id pl right).outs.length=k.outs.length+1:=by
 unfold zdg at h ⊢;split
 ·rename_i e he
  have:=List.find?_some he;unfold zd9 at this;simp at this;exact⟨this.1.1,by simp⟩
 ·rename_i he
  rw[he]at h;simp at h
theorem zjx (l:List Sec) (k:Wk) (id pl:Int) (right:Nat→Jn→Bool) (h:(zcz l k id pl right).lost=false):k.lost=false∧(zcz l k id pl right).outs.length=k.outs.length+1:=by
 unfold zcz at h ⊢;obtain⟨h1,h2⟩:=zl7 _ _ _ _ _ h;rw[zge]at h2;refine⟨?_,h2⟩;cases hk:k.lost with
 | false=>rfl
 | true=>rw[zl6 _ _ _ hk]at h1;cases h1
theorem zre (l:List Sec) (k:Wk) (id pl:Int) (h:(zew l k id pl).lost=false):k.lost=false∧(zew l k id pl).outs=k.outs:=by
 unfold zew at h ⊢
 have hl:(wkS l k id).lost=false:=by
  split at h
  ·rename_i h1;exact h1.1
  ·exact h
 refine⟨?_,?_⟩
 ·cases hk:k.lost with
  | false=>rfl
  | true=>rw[zl6 _ _ _ hk]at hl;cases hl
 ·split
  ·rw[zij,zge]
  ·rw[zge]
theorem zrf (p:Pl) (r:Rt) (i:Nat) (k:Wk):(za8 p r i k).asks.length≤k.asks.length+1∧(za8 p r i k).outs.length≤k.outs.length+1:=by
 have ht: ∀id pl right,(zcz p.S k id pl right).asks.length≤k.asks.length+1∧(zcz p.S k id pl right).outs.length≤k.outs.length+1:=by
  intro id pl right;have:=zrd (zcs p.S k id) (wkS p.S k id) id pl right;rw[zf0,zge]at this;exact this
 unfold za8;split
 ·exact ht _ _ _
 ·split
  ·exact ht _ _ _
  ·split
   ·unfold zew;split
    ·have:=zjw (wkS p.S k ((zaa r).getD i 0)) (zcs p.S k ((zaa r).getD i 0)).pt k.inn.en i;rw[zf0]at this;rw[zij,zge];exact⟨this,by simp⟩
    ·rw[zf0,zge];simp
   ·exact ht _ _ _
theorem zgf (p:Pl) (r:Rt): ∀i,(za7 p r i).asks.length≤i∧(za7 p r i).outs.length≤i
 | 0=>by simp[za7]
 | i+1=>by
  have h1:=zgf p r i;have h2:=zrf p r i (za7 p r i);show(za8 p r i (za7 p r i)).asks.length≤_∧(za8 p r i (za7 p r i)).outs.length≤_;omega
theorem zl8 (p:Pl) (r:Rt) (i:Nat) (k:Wk) (h:(za8 p r i k).lost=false):k.lost=false∧k.outs.length≤(za8 p r i k).outs.length∧(i<r.A.length→(za8 p r i k).outs.length=k.outs.length+1):=by
 have hl:r.A.length≤(zaa r).length:=by unfold zaa;simp
 unfold za8 at h ⊢;split
 ·rename_i c;rw[if_pos c]at h
  have:=zjx _ _ _ _ _ h;exact⟨this.1,by omega,fun _=>this.2⟩
 ·rename_i c;rw[if_neg c]at h
  split
  ·rename_i c;rw[if_pos c]at h
   have:=zjx _ _ _ _ _ h;exact⟨this.1,by omega,fun _=>this.2⟩
  ·rename_i c1;rw[if_neg c1]at h
   split
   ·rename_i c2;rw[if_pos c2]at h
    have:=zre _ _ _ _ h;exact⟨this.1,by rw[this.2];omega,fun hi=>by omega⟩
   ·rename_i c2;rw[if_neg c2]at h
    have:=zjx _ _ _ _ _ h;exact⟨this.1,by omega,fun _=>this.2⟩
theorem zl9 (p:Pl) (r:Rt): ∀i,(za7 p r i).lost=false→min i r.A.length≤(za7 p r i).outs.length
 | 0,_=>by simp
 | i+1,h=>by
  have h:(za8 p r i (za7 p r i)).lost=false:=h;obtain⟨h1,h2,h3⟩:=zl8 p r i _ h;have h4:=zl9 p r i h1;show _≤(za8 p r i (za7 p r i)).outs.length;by_cases hi:i<r.A.length
  ·have:=h3 hi;omega
  ·omega
theorem zrg (p:Pl) (r:Rt) (h:(zcg p r).lost=false):r.A.length≤(zbk p r).length:=by
 have:=zl9 p r (zaa r).length h;have hl:r.A.length≤(zaa r).length:=by unfold zaa;simp
 unfold zbk zcg;omega
theorem zma (k:Wk) (l:List Fl): ∀i,(zbg k l i).outs=k.outs
 | 0=>rfl
 | i+1=>by rw[zbg,zij,zma k l i]
theorem zik (k:Wk) (l:List Fl): ∀i,(zbg k l i).asks.length≤k.asks.length+i
 | 0=>Nat.le_refl _
 | i+1=>by
  have h1:=zik k l i;have h2:=zjw (zbg k l i) (l.getD i ⟨0,0⟩).pt (l.getD i ⟨0,0⟩).lie (-1);rw[zbg];omega
def zdu (l:List Ask):Prop:= ∀a∈l,1≤a.pt∧a.pt≤99
theorem zjy {k:Wk}{pt lie pl:Int}(h:zdu k.asks) (hp:pt≤99):zdu (zb9 k pt lie pl).asks:=by
 unfold zb9;split
 ·rename_i c
  intro a ha;rcases List.mem_append.1 ha with ha | ha
  ·exact h a ha
  ·rw[List.mem_singleton]at ha;subst ha;exact⟨by show 1≤pt;omega,hp⟩
 ·exact h
theorem zmb {l:List Sec}(hA:za4 l l.length) (k:Wk) (id:Int):(zcs l k id).pt≤99:=by
 unfold zcs;split
 ·rename_i c
  obtain⟨i,hi,he⟩:=List.getElem_of_mem (ze8 (z:=zcy) c.1).1;rw[←he];rcases(hA i hi hi).1.2.2 with h | h<;>omega
 ·show(0:Int)≤99;omega
theorem zrh {s:Sec}{k:Wk}{id pl:Int}{right:Nat→Jn→Bool}(h:zdu k.asks) (hp:s.pt≤99):zdu (zdg s k id pl right).asks:=by
 unfold zdg;split
 ·exact zjy h hp
 ·exact h
theorem zri {p:Pl}(hA:za4 p.S p.S.length) (r:Rt) (i:Nat) (k:Wk) (h:zdu k.asks):zdu (za8 p r i k).asks:=by
 have ht: ∀id pl right,zdu (zcz p.S k id pl right).asks:=fun id pl right=>zrh (by rw[zf0];exact h) (zmb hA _ _);unfold za8;split
 ·exact ht _ _ _
 ·split
  ·exact ht _ _ _
  ·split
   ·unfold zew;split
    ·exact zjy (by rw[zf0];exact h) (zmb hA _ _)
    ·rw[zf0];exact h
   ·exact ht _ _ _
theorem zmc {p:Pl}(hA:za4 p.S p.S.length) (r:Rt): ∀i,zdu (za7 p r i).asks
 | 0=>fun a ha=>by simp[za7]at ha
 | i+1=>zri hA r i _ (zmc hA r i)
theorem zmd {k:Wk}{l:List Fl}(h:zdu k.asks) (hl: ∀f∈l,f.pt≤99): ∀i,zdu (zbg k l i).asks
 | 0=>h
 | i+1=>zjy (zmd h hl i) (by
  rw[List.getD_eq_getElem?_getD];cases he:l[i]? with
  | none=>show(0:Int)≤99;omega
  | some f=>exact hl f (List.mem_of_getElem? he))
theorem zme {p:Pl}{r:Rt}(hA:za4 p.S p.S.length) (hP:zat Pt.id p.P p.P.length) (hF:FlA p.P r.fl r.fl.length):zdu (zao p r).asks:=
 zmd (zmc hA r _) (fun f hf=>by
  obtain⟨i,hi,rfl⟩:=List.getElem_of_mem hf;have h1:=ze8 (z:=(⟨0,0⟩:Pt)) (hF i hi hi).1;obtain⟨j,hj,he⟩:=List.getElem_of_mem h1.1;have h2:=(hP j hj hj).1;have h3:p.P[j].id=r.fl[i].pt:=by rw[he];exact h1.2
  omega) _
def zfl (l:List Ask) (k:Nat):Prop:= ∀i (h:i<l.length),i<k→ ∀m (hm:m<i),l[m].pt≠l[i].pt
instance (l:List Ask) (k:Nat):Decidable (zfl l k):=by unfold zfl;exact inferInstance
def zdv (l:List Ask):Prop:=zfl l l.length
instance (l:List Ask):Decidable (zdv l):=by unfold zdv;exact inferInstance
theorem zmf {l:List Ask}{k:Nat}(h:k<l.length) (hA:zfl l k) (hk: ∀m (hm:m<k),l[m].pt≠l[k].pt):zfl l (k+1):=by
 intro i hi hik;rcases Nat.lt_or_ge i k with h' | h'
 ·exact hA i hi h'
 ·obtain rfl:i=k:=by omega
  exact hk
def zex (l:List Ask) (k:Nat) (q:Nat):Bool:=(l.take k).any fun x=>decide (x.pt=(q:Int))
theorem zrj (l:List Ask) (q:Nat):zex l 0 q=false:=by simp[zex]
theorem zrk {l:List Ask}{k:Nat}(h:k<l.length) (p:Nat) (hp:l[k].pt=(p:Int)) (q:Nat):(if q=p then true else zex l k q)=zex l (k+1) q:=by
 unfold zex;rw[List.take_succ_eq_append_getElem h,List.any_append];by_cases hq:q=p
 ·rw[if_pos hq];simp[hp,hq]
 ·rw[if_neg hq];have: ¬(p:Int)=(q:Int):=by omega
  simp[hp,this]
theorem zrl {l:List Ask}{k:Nat}(h:k<l.length) (p:Nat) (hp:l[k].pt=(p:Int)):zex l k p=true↔ ¬ ∀m (hm:m<k),l[m].pt≠l[k].pt:=by
 unfold zex;rw[hp,List.any_eq_true];constructor
 ·rintro⟨x,hx,hq⟩ hall;obtain⟨i,hi,rfl⟩:=List.getElem_of_mem hx;rw[List.length_take]at hi;rw[List.getElem_take]at hq;exact hall i (by omega) (by simpa using hq)
 ·intro hn;simp only[Classical.not_forall,Ne,Classical.not_not]at hn;obtain⟨m,hm,he⟩:=hn;exact⟨l[m],List.mem_iff_getElem.2 ⟨m,by rw[List.length_take];omega,by rw[List.getElem_take]⟩,by simpa using he⟩
def zf1 (r:Rt) (i:Nat) (j:Jn) (x:Sg):Prop:=x.sec=j.to∧x.en=j.en∧(i+1<r.A.length∨x.id≠r.X)
instance (r:Rt) (i:Nat) (j:Jn) (x:Sg):Decidable (zf1 r i j x):=by unfold zf1;exact inferInstance
def zfb (p:Pl) (r:Rt) (i:Nat) (j:Jn) (k:Nat):Prop:= ∀m (h:m<p.G.length),m<k→ ¬zf1 r i j p.G[m]
instance (p:Pl) (r:Rt) (i:Nat) (j:Jn) (k:Nat):Decidable (zfb p r i j k):=by unfold zfb;exact inferInstance
def zfm (p:Pl) (r:Rt) (outs:List Jn) (k:Nat):Prop:= ∀i (h:i<outs.length),i<k→zfb p r i outs[i] p.G.length
instance (p:Pl) (r:Rt) (outs:List Jn) (k:Nat):Decidable (zfm p r outs k):=by unfold zfm;exact inferInstance
def zea (p:Pl) (r:Rt) (outs:List Jn):Prop:=zfm p r outs r.A.length
instance (p:Pl) (r:Rt) (outs:List Jn):Decidable (zea p r outs):=by unfold zea;exact inferInstance
theorem zjz {p:Pl}{r:Rt}{i:Nat}{j:Jn}{k:Nat}(h:k<p.G.length) (hA:zfb p r i j k) (hk: ¬zf1 r i j p.G[k]):zfb p r i j (k+1):=by
 intro m hm hmk;rcases Nat.lt_or_ge m k with h' | h'
 ·exact hA m hm h'
 ·obtain rfl:m=k:=by omega
  exact hk
theorem zrm {p:Pl}{r:Rt}{outs:List Jn}{k:Nat}(h:k<outs.length) (hA:zfm p r outs k) (hk:zfb p r k outs[k] p.G.length):zfm p r outs (k+1):=by
 intro i hi hik;rcases Nat.lt_or_ge i k with h' | h'
 ·exact hA i hi h'
 ·obtain rfl:i=k:=by omega
  exact hk
def zgy (p:Pl) (k:Nat):Prop:= ∀i (h:i<p.R.length),i<k→(zcg p p.R[i]).lost=false
instance (p:Pl) (k:Nat):Decidable (zgy p k):=by unfold zgy;exact inferInstance
def zgg (p:Pl):Prop:=zgy p p.R.length
instance (p:Pl):Decidable (zgg p):=by unfold zgg;exact inferInstance
theorem zrn {p:Pl}{k:Nat}(h:k<p.R.length) (hA:zgy p k) (hk:(zcg p p.R[k]).lost=false):zgy p (k+1):=by
 intro i hi hik;rcases Nat.lt_or_ge i k with h' | h'
 ·exact hA i hi h'
 ·obtain rfl:i=k:=by omega
  exact hk
def zgh (p:Pl) (r:Rt):Prop:=zdv (zao p r).asks∧zea p r (zbk p r)
instance (p:Pl) (r:Rt):Decidable (zgh p r):=by unfold zgh;exact inferInstance
def zf2 (p:Pl) (k:Nat):Prop:= ∀i (h:i<p.R.length),i<k→zgh p p.R[i]
instance (p:Pl) (k:Nat):Decidable (zf2 p k):=by unfold zf2;exact inferInstance
theorem zro {p:Pl}{k:Nat}(h:k<p.R.length) (hA:zf2 p k) (hk:zgh p p.R[k]):zf2 p (k+1):=by
 intro i hi hik;rcases Nat.lt_or_ge i k with h' | h'
 ·exact hA i hi h'
 ·obtain rfl:i=k:=by omega
  exact hk
def zdl (x:Tk) (y:Sec):Prop:=x.id=y.id∧x.is≤2
instance (x:Tk) (y:Sec):Decidable (zdl x y):=by unfold zdl;exact inferInstance
def zdh (x:Sw) (y:Pt):Prop:=x.id=y.id∧(0≤x.lie∧x.lie≤2)∧(0≤x.call∧x.call≤2)
instance (x:Sw) (y:Pt):Decidable (zdh x y):=by unfold zdh;exact inferInstance
def zch (l:Lk) (r:Rt):Prop:=
 ((l.ph=0∨l.ph=1)∧l.gone=0∧l.left=0)∨(l.ph=2∧0≤l.gone∧l.gone≤(r.A.length:Int)-1∧l.left=0)∨
 (l.ph=3∧l.gone=(r.A.length:Int)-1∧1≤l.left∧l.left≤r.T)∨(l.ph=4∧l.gone=0∧1≤l.left∧l.left≤r.T)
instance (l:Lk) (r:Rt):Decidable (zch l r):=by unfold zch;exact inferInstance
def zdw (x:Lk) (y:Rt):Prop:=x.id=y.id∧zch x y
instance (x:Lk) (y:Rt):Decidable (zdw x y):=by unfold zdw;exact inferInstance
def ze0 {α β:Type}(R:α→β→Prop) (l:List α) (m:List β) (k:Nat):Prop:= ∀i (h:i<l.length) (h':i<m.length),i<k→R l[i] m[i]
instance {α β:Type}(R:α→β→Prop) [∀a b,Decidable (R a b)] (l:List α) (m:List β) (k:Nat):Decidable (ze0 R l m k):=by unfold ze0;exact inferInstance
def zbn {α β:Type}(R:α→β→Prop) (l:List α) (m:List β):Prop:=l.length=m.length∧ze0 R l m l.length
instance {α β:Type}(R:α→β→Prop) [∀a b,Decidable (R a b)] (l:List α) (m:List β):Decidable (zbn R l m):=by unfold zbn;exact inferInstance
theorem zj0 {α β:Type}{R:α→β→Prop}{l:List α}{m:List β}{k:Nat}(h:k<l.length) (h':k<m.length) (hA:ze0 R l m k) (hk:R l[k] m[k]):ze0 R l m (k+1):=by
 intro i hi hi' hik;rcases Nat.lt_or_ge i k with q | q
 ·exact hA i hi hi' q
 ·obtain rfl:i=k:=by omega
  exact hk
def zc0 (w:Wy) (l:Lk):List Int:=if l.ph=0 then []else w.A.drop (min (max l.gone 0).toNat w.A.length)++w.O
def zc8 (w:Wy) (l:Lk):List Ask:=if l.ph=0 then []else w.asks.filter fun a=>decide (a.pl<0∨l.gone≤a.pl)
structure Gr where
 H:Nat→Int
 A:Nat→Int
 ok:Bool
def zc9 (id:Int) (g:Gr) (s:Int):Gr:=⟨fun q=>if q=s.toNat then id else g.H q,g.A,g.ok&&decide (g.H s.toNat=0)⟩
def zc4 (id:Int):List Int→Gr→Gr
 | [],g=>g
 | s::r,g=>if(zc9 id g s).ok then zc4 id r (zc9 id g s)else zc9 id g s
def zda (call:Int→Int) (g:Gr) (a:Ask):Gr:=⟨g.H,fun q=>if q=a.pt.toNat then a.lie else g.A q,g.ok&&decide (call a.pt=a.lie)⟩
def zc5 (call:Int→Int):List Ask→Gr→Gr
 | [],g=>g
 | a::r,g=>if(zda call g a).ok then zc5 call r (zda call g a)else zda call g a
def zf3 (call:Int→Int) (w:Wy) (l:Lk) (g:Gr):Gr:=zc5 call (zc8 w l) (zc4 l.id (zc0 w l) g)
def zLk:Lk:=⟨0,0,0,0⟩
def zRt:Rt:=⟨0,0,0,[],[],[],0⟩
def zbz (l:List Sw) (pt:Int):Int:=(za1 Sw.id ⟨0,0,0⟩ l pt).call
def zbr (p:Pl) (s:St):Nat→Gr
 | 0=>⟨fun _=>0,fun _=>0,true⟩
 | i+1=>zf3 (zbz s.sws) (zao p (p.R.getD i zRt)) (s.lks.getD i zLk) (zbr p s i)
def zf4 (p:Pl) (s:St):Gr:=zbr p s s.lks.length
def StA (p:Pl) (s:St):Prop:=zbn zdl s.tks p.S∧zbn zdh s.sws p.P∧zbn zdw s.lks p.R
instance (p:Pl) (s:St):Decidable (StA p s):=by unfold StA;exact inferInstance
def zdi (p:Pl) (s:St):Prop:=StA p s∧(zf4 p s).ok=true
instance (p:Pl) (s:St):Decidable (zdi p s):=by unfold zdi;exact inferInstance
end Go.Proofs.YtbiehpjhhopjaaaGreat
