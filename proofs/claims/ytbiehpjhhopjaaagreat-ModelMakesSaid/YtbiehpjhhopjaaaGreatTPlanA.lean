/-
 Slices of structs that read as lists.
-/
import Derived.Test.YtbiehpjhhopjaaaGreatTSameOwn
import Derived.Test.YtbiehpjhhopjaaaGreatTData
import Derived.Maps.AppendAt
import Derived.OwnWalk
set_option linter.unusedVariables false
set_option linter.unusedSimpArgs false
set_option maxRecDepth 100000
set_option maxHeartbeats 16000000
namespace Go.Proofs.YtbiehpjhhopjaaaGreat
open Go.RowKit
def zeb {α:Type}(R:World→List Value→α→Prop):Prop:= ∀w w' vs x,jb w w'→R w vs x→R w' vs x
structure SlA {α:Type}(w:World) (sz:Nat) (R:World→List Value→α→Prop) (a:Option Addr) (cap:Nat) (l:List α):Prop where
 le:l.length≤cap
 nil:a=none→cap=0
 at_: ∀i (h:i<l.length),∃b off vs,a=some ⟨b,off,none⟩∧vs.length=sz∧(∀j (hj:j<vs.length),jc w b (off+i * sz+j) vs[j])∧R w vs l[i]
def Sl {α:Type}(w:World) (sz:Nat) (R:World→List Value→α→Prop) (v:Value) (l:List α):Prop:= ∃a cap,v= .slice a l.length cap∧SlA w sz R a cap l
theorem SlA.below {α:Type}{w w':World}{sz:Nat}{R:World→List Value→α→Prop}{a:Option Addr}{cap:Nat}{l:List α}(hR:zeb R) (h:SlA w sz R a cap l) (hb:jb w w'):SlA w' sz R a cap l:=
 ⟨h.le,h.nil,fun i hi=>by
  obtain⟨b,off,vs,e,hl,hc,hr⟩:=h.at_ i hi
  exact⟨b,off,vs,e,hl,fun j hj=>(hb.cell (block_lt_of_cell (hc j hj))).trans (hc j hj),hR _ _ _ _ hb hr⟩⟩
theorem Sl.below {α:Type}{w w':World}{sz:Nat}{R:World→List Value→α→Prop}{v:Value}{l:List α}(hR:zeb R) (h:Sl w sz R v l) (hb:jb w w'):Sl w' sz R v l:=by
 obtain⟨a,cap,e,h⟩:=h;exact⟨a,cap,e,h.below hR hb⟩
theorem Sl.nil {α:Type}(w:World) (sz:Nat) (R:World→List Value→α→Prop):Sl w sz R (.slice none 0 0) []:=⟨none,0,rfl,Nat.le_refl _,fun _=>rfl,fun i h=>by simp at h⟩
def zrp (w:World) (vs:List Value) (x:Int):Prop:=vs=[.int .i64 x]
def RJn (w:World) (vs:List Value) (x:Jn):Prop:=vs=[.int .i64 x.to,.int .i64 x.en]
def RPt (w:World) (vs:List Value) (x:Pt):Prop:=vs=[.int .i64 x.id,.int .i64 x.sec]
def RSg (w:World) (vs:List Value) (x:Sg):Prop:=vs=[.int .i64 x.id,.int .i64 x.sec,.int .i64 x.en]
def RFl (w:World) (vs:List Value) (x:Fl):Prop:=vs=[.int .i64 x.pt,.int .i64 x.lie]
def ze1 (w:World) (vs:List Value) (x:Ask):Prop:=vs=[.int .i64 x.pt,.int .i64 x.lie,.int .i64 x.pl]
def RTk (w:World) (vs:List Value) (x:Tk):Prop:=vs=[.int .i64 x.id,.int .u8 x.is]
def RSw (w:World) (vs:List Value) (x:Sw):Prop:=vs=[.int .i64 x.id,.int .i64 x.lie,.int .i64 x.call]
def RLk (w:World) (vs:List Value) (x:Lk):Prop:=vs=[.int .i64 x.id,.int .u8 x.ph,.int .i64 x.gone,.int .i64 x.left]
def Jns (w:World) (v:Value) (l:List Jn):Prop:=Sl w 2 RJn v l
def zas (w:World) (vs:List Value) (x:Sec):Prop:= ∃e,vs=[.int .i64 x.id,.int .i64 x.pt,e]∧Jns w e x.ends
def zrq (w:World) (v:Value) (l:List Sec):Prop:=Sl w 3 zas v l
def Pts (w:World) (v:Value) (l:List Pt):Prop:=Sl w 2 RPt v l
def Sgs (w:World) (v:Value) (l:List Sg):Prop:=Sl w 3 RSg v l
def Fls (w:World) (v:Value) (l:List Fl):Prop:=Sl w 2 RFl v l
def zhm (w:World) (v:Value) (l:List Ask):Prop:=Sl w 3 ze1 v l
def Tks (w:World) (v:Value) (l:List Tk):Prop:=Sl w 2 RTk v l
def Sws (w:World) (v:Value) (l:List Sw):Prop:=Sl w 3 RSw v l
def Lks (w:World) (v:Value) (l:List Lk):Prop:=Sl w 4 RLk v l
structure RtM (w:World) (p o f:Value) (x:Rt):Prop where
 A:ILv w p x.A
 O:ILv w o x.O
 fl:Fls w f x.fl
def RRt (w:World) (vs:List Value) (x:Rt):Prop:= ∃p o f,vs=[.int .i64 x.id,.int .i64 x.E,.int .i64 x.X,p,o,f,.int .i64 x.T]∧RtM w p o f x
def Rts (w:World) (v:Value) (l:List Rt):Prop:=Sl w 7 RRt v l
theorem zcn:zeb RJn:=fun _ _ _ _ _ h=>h
theorem zct:zeb RPt:=fun _ _ _ _ _ h=>h
theorem zcu:zeb RSg:=fun _ _ _ _ _ h=>h
theorem zgi:zeb RFl:=fun _ _ _ _ _ h=>h
theorem zil:zeb ze1:=fun _ _ _ _ _ h=>h
theorem ze2:zeb RTk:=fun _ _ _ _ _ h=>h
theorem zc6:zeb RSw:=fun _ _ _ _ _ h=>h
theorem zc7:zeb RLk:=fun _ _ _ _ _ h=>h
theorem zbo:zeb zas:=fun _ _ _ _ hb ⟨e,h1,h2⟩=>⟨e,h1,h2.below zcn hb⟩
theorem RtM.below {w w':World}{p o f:Value}{x:Rt}(h:RtM w p o f x) (hb:jb w w'):RtM w' p o f x:=⟨h.A.below hb,h.O.below hb,h.fl.below zgi hb⟩
theorem zcv:zeb RRt:=fun _ _ _ _ hb ⟨p,o,f,h1,h2⟩=>⟨p,o,f,h1,h2.below hb⟩
structure PlM (w:World) (s p g r:Value) (x:Pl):Prop where
 S:zrq w s x.S
 P:Pts w p x.P
 G:Sgs w g x.G
 R:Rts w r x.R
theorem PlM.below {w w':World}{s p g r:Value}{x:Pl}(h:PlM w s p g r x) (hb:jb w w'):PlM w' s p g r x:=
 ⟨h.S.below zbo hb,h.P.below zct hb,h.G.below zcu hb,h.R.below zcv hb⟩
def plV (x:Pl) (s p g r:Value):Value:= .agg #[x.ver,x.par,s,p,g,r]
structure StM (w:World) (t s l:Value) (x:St):Prop where
 tks:Tks w t x.tks
 sws:Sws w s x.sws
 lks:Lks w l x.lks
theorem StM.below {w w':World}{t s l:Value}{x:St}(h:StM w t s l x) (hb:jb w w'):StM w' t s l x:=
 ⟨h.tks.below ze2 hb,h.sws.below zc6 hb,h.lks.below zc7 hb⟩
section
variable {w:World}{a:Option Addr}{cap:Nat}
theorem SlA.jn {l:List Jn}(h:SlA w 2 RJn a cap l){i:Nat}(hi:i<l.length): ∃b off,a=some ⟨b,off,none⟩∧jc w b (off+i * 2) l[i].to∧jc w b (off+i * 2+1) l[i].en:=by
 obtain⟨b,off,vs,e,hl,hc,rfl⟩:=h.at_ i hi;exact⟨b,off,e,hc 0 (by simp),hc 1 (by simp)⟩
theorem SlA.pt {l:List Pt}(h:SlA w 2 RPt a cap l){i:Nat}(hi:i<l.length): ∃b off,a=some ⟨b,off,none⟩∧jc w b (off+i * 2) l[i].id∧jc w b (off+i * 2+1) l[i].sec:=by
 obtain⟨b,off,vs,e,hl,hc,rfl⟩:=h.at_ i hi;exact⟨b,off,e,hc 0 (by simp),hc 1 (by simp)⟩
theorem SlA.fl {l:List Fl}(h:SlA w 2 RFl a cap l){i:Nat}(hi:i<l.length): ∃b off,a=some ⟨b,off,none⟩∧jc w b (off+i * 2) l[i].pt∧jc w b (off+i * 2+1) l[i].lie:=by
 obtain⟨b,off,vs,e,hl,hc,rfl⟩:=h.at_ i hi;exact⟨b,off,e,hc 0 (by simp),hc 1 (by simp)⟩
theorem SlA.sg {l:List Sg}(h:SlA w 3 RSg a cap l){i:Nat}(hi:i<l.length): ∃b off,a=some ⟨b,off,none⟩∧jc w b (off+i * 3) l[i].id∧jc w b (off+i * 3+1) l[i].sec∧jc w b (off+i * 3+2) l[i].en:=by
 obtain⟨b,off,vs,e,hl,hc,rfl⟩:=h.at_ i hi;exact⟨b,off,e,hc 0 (by simp),hc 1 (by simp),hc 2 (by simp)⟩
theorem SlA.ask {l:List Ask}(h:SlA w 3 ze1 a cap l){i:Nat}(hi:i<l.length): ∃b off,a=some ⟨b,off,none⟩∧jc w b (off+i * 3) l[i].pt∧jc w b (off+i * 3+1) l[i].lie∧jc w b (off+i * 3+2) l[i].pl:=by
 obtain⟨b,off,vs,e,hl,hc,rfl⟩:=h.at_ i hi;exact⟨b,off,e,hc 0 (by simp),hc 1 (by simp),hc 2 (by simp)⟩
theorem SlA.tk {l:List Tk}(h:SlA w 2 RTk a cap l){i:Nat}(hi:i<l.length): ∃b off,a=some ⟨b,off,none⟩∧jc w b (off+i * 2) l[i].id∧jc w b (off+i * 2+1) (.int .u8 l[i].is):=by
 obtain⟨b,off,vs,e,hl,hc,rfl⟩:=h.at_ i hi;exact⟨b,off,e,hc 0 (by simp),hc 1 (by simp)⟩
theorem SlA.sw {l:List Sw}(h:SlA w 3 RSw a cap l){i:Nat}(hi:i<l.length): ∃b off,a=some ⟨b,off,none⟩∧jc w b (off+i * 3) l[i].id∧jc w b (off+i * 3+1) l[i].lie∧jc w b (off+i * 3+2) l[i].call:=by
 obtain⟨b,off,vs,e,hl,hc,rfl⟩:=h.at_ i hi;exact⟨b,off,e,hc 0 (by simp),hc 1 (by simp),hc 2 (by simp)⟩
theorem SlA.lk {l:List Lk}(h:SlA w 4 RLk a cap l){i:Nat}(hi:i<l.length): ∃b off,a=some ⟨b,off,none⟩∧jc w b (off+i * 4) l[i].id∧jc w b (off+i * 4+1) (.int .u8 l[i].ph)∧jc w b (off+i * 4+2) l[i].gone∧jc w b (off+i * 4+3) l[i].left:=by
 obtain⟨b,off,vs,e,hl,hc,rfl⟩:=h.at_ i hi;exact⟨b,off,e,hc 0 (by simp),hc 1 (by simp),hc 2 (by simp),hc 3 (by simp)⟩
theorem SlA.sec {l:List Sec}(h:SlA w 3 zas a cap l){i:Nat}(hi:i<l.length): ∃b off a' c',a=some ⟨b,off,none⟩∧jc w b (off+i * 3) l[i].id∧jc w b (off+i * 3+1) l[i].pt∧jc w b (off+i * 3+2) (js a' l[i].ends.length c')∧SlA w 2 RJn a' c' l[i].ends:=by
 obtain⟨b,off,vs,e,hl,hc,x,rfl,a',c',rfl,hx⟩:=h.at_ i hi;exact⟨b,off,a',c',e,hc 0 (by simp),hc 1 (by simp),hc 2 (by simp),hx⟩
theorem SlA.rt {l:List Rt}(h:SlA w 7 RRt a cap l){i:Nat}(hi:i<l.length): ∃b off p o f,a=some ⟨b,off,none⟩∧jc w b (off+i * 7) l[i].id∧jc w b (off+i * 7+1) l[i].E∧jc w b (off+i * 7+2) l[i].X∧
  jc w b (off+i * 7+3) p∧jc w b (off+i * 7+4) o∧jc w b (off+i * 7+5) f∧jc w b (off+i * 7+6) l[i].T∧RtM w p o f l[i]:=by
 obtain⟨b,off,vs,e,hl,hc,p,o,f,rfl,hx⟩:=h.at_ i hi;exact⟨b,off,p,o,f,e,hc 0 (by simp),hc 1 (by simp),hc 2 (by simp),hc 3 (by simp),hc 4 (by simp),hc 5 (by simp),hc 6 (by simp),hx⟩
end
def Ext (w w':World):Prop:= ∀a v,w.cell? a=some v→w'.cell? a=some v
theorem Ext.refl (w:World):Ext w w:=fun _ _ h=>h
theorem Ext.trans {a b c:World}(h:Ext a b) (k:Ext b c):Ext a c:=fun p v e=>k p v (h p v e)
theorem Ext.of_below {w w':World}(hb:jb w w'):Ext w w':=fun a v h=>(hb.cell (block_lt_of_cell h)).trans h
def KeepsC {α:Type}(R:World→List Value→α→Prop):Prop:= ∀w w' vs x,Ext w w'→R w vs x→R w' vs x
theorem KeepsC.keeps {α:Type}{R:World→List Value→α→Prop}(h:KeepsC R):zeb R:=fun w w' vs x hb hr=>h w w' vs x (Ext.of_below hb) hr
theorem SlA.ext {α:Type}{w w':World}{sz:Nat}{R:World→List Value→α→Prop}{a:Option Addr}{cap:Nat}{l:List α}(hR:KeepsC R) (h:SlA w sz R a cap l) (he:Ext w w'):SlA w' sz R a cap l:=
 ⟨h.le,h.nil,fun i hi=>by
  obtain⟨b,off,vs,e,hl,hc,hr⟩:=h.at_ i hi
  exact⟨b,off,vs,e,hl,fun j hj=>he _ _ (hc j hj),hR _ _ _ _ he hr⟩⟩
theorem Sl.ext {α:Type}{w w':World}{sz:Nat}{R:World→List Value→α→Prop}{v:Value}{l:List α}(hR:KeepsC R) (h:Sl w sz R v l) (he:Ext w w'):Sl w' sz R v l:=by
 obtain⟨a,cap,e,h⟩:=h;exact⟨a,cap,e,h.ext hR he⟩
theorem IL.ext {w w':World}{a:Option Addr}{len:Nat}{l:List Int}(h:IL w a len l) (he:Ext w w'):IL w' a len l:=
 ⟨h.len,fun i hi=>by
  obtain⟨b,off,e,hc⟩:=h.cell i hi
  exact⟨b,off,e,he _ _ hc⟩⟩
theorem ILv.ext {w w':World}{v:Value}{l:List Int}(h:ILv w v l) (he:Ext w w'):ILv w' v l:=by
 obtain⟨a,n,c,e,hl⟩:=h;exact⟨a,n,c,e,hl.ext he⟩
theorem zim:KeepsC RJn:=fun _ _ _ _ _ h=>h
theorem zmg:KeepsC ze1:=fun _ _ _ _ _ h=>h
def zin (M:TypeId→Bool):Obj→Obj
 | .cells c t fr=>if M t then .cells #[] t fr else .cells c t fr
 | o=>o
def zb0 (M:TypeId→Bool) (w:World):World:={w with heap:=w.heap.map (zin M)}
theorem zhn {M:TypeId→Bool}{w:World}{k:Nat}{c:Array Value}{t:TypeId}{fr:Nat × Nat}(h:w.heap[k]? =some (.cells c t fr)) (hm:M t=false):(zb0 M w).heap[k]? =some (.cells c t fr):=by
 simp[zb0,h,zin,hm]
theorem zj1 {M:TypeId→Bool}{w:World}{a:Addr}{v:Value}(h:(zb0 M w).cell? a=some v): ∃c t fr,w.heap[a.block]? =some (.cells c t fr)∧M t=false:=by
 unfold World.cell? at h;simp only[zb0,Array.getElem?_map]at h;cases ho:w.heap[a.block]? with
 | none=>rw[ho]at h;simp at h
 | some o=>
  rw[ho]at h;cases o with
  | cells c t fr=>
   refine⟨c,t,fr,rfl,?_⟩;cases hm:M t with
   | false=>rfl
   | true=>simp[zin,hm]at h
  | _=>simp[zin]at h
theorem zrr {M:TypeId→Bool}{w w':World}{a:Addr}{v:Value}(h:(zb0 M w).cell? a=some v) (hs: ∀c t fr,w.heap[a.block]? =some (.cells c t fr)→M t=false→w'.heap[a.block]? =some (.cells c t fr)):(zb0 M w').cell? a=some v:=by
 obtain⟨c,t,fr,h1,h2⟩:=zj1 h;rw[World.cell?_of_block (w:=zb0 M w)]
 ·exact h
 ·rw[zhn h1 h2,zhn (hs c t fr h1 h2) h2]
theorem zio (M:TypeId→Bool) (w:World):Ext (zb0 M w) w:=fun a v h=>by
 obtain⟨c,t,fr,h1,h2⟩:=zj1 h;rw[World.cell?_of_block (w:=zb0 M w)]
 ·exact h
 ·rw[zhn h1 h2,h1]
def Same (M:TypeId→Bool) (w w':World):Prop:= ∀(k:Nat) (c:Array Value) (t:TypeId) (fr:Nat × Nat),w.heap[k]? =some (.cells c t fr)→M t=false→w'.heap[k]? =some (.cells c t fr)
theorem Same.ext {M:TypeId→Bool}{w w':World}(h:Same M w w'):Ext (zb0 M w) (zb0 M w'):=fun a v e=>zrr e fun c t fr h1 h2=>h _ c t fr h1 h2
theorem zad {w:World}{k:Nat}{o:Obj}(h:w.heap[k]? =some o):k<w.heap.size:=by
 rcases Nat.lt_or_ge k w.heap.size with q | q
 ·exact q
 ·rw[Array.getElem?_eq_none q]at h;cases h
theorem Same.of_below {M:TypeId→Bool}{w w':World}(hb:jb w w'):Same M w w':=fun k c t fr h _=>(hb.block k (zad h)).trans h
theorem Same.trans {M:TypeId→Bool}{a b c:World}(h:Same M a b) (k:Same M b c):Same M a c:=fun i x t fr e m=>k i x t fr (h i x t fr e m) m
theorem Same.refl (M:TypeId→Bool) (w:World):Same M w w:=fun _ _ _ _ h _=>h
theorem zfc (g j:Nat):(⟨g,0,none⟩:Addr).add j=⟨g,j,none⟩:=by unfold Addr.add;split<;>simp_all
theorem zb1 {w:World}{base:Nat}{e:TypeId}{sz:Nat}{v:Value}{n:Nat}{xs:List Value}(h:w.ownsRow base e sz v n xs){k:Nat}(hk:v.ownBlock=some k): ∃c,jk w k c e∧base≤k:=by
 rcases h.2 with⟨rfl,_⟩ | ⟨g,cap,cur,rfl,hb,hg,_⟩
 ·simp[Value.ownBlock]at hk
 ·simp[Value.ownBlock]at hk;subst hk;exact⟨cur,hg,hb⟩
theorem zdx {w:World}{b1 b2:Nat}{e1 e2:TypeId}{s1 s2:Nat}{v1 v2:Value}{n1 n2:Nat}{x1 x2:List Value}(h1:w.ownsRow b1 e1 s1 v1 n1 x1) (h2:w.ownsRow b2 e2 s2 v2 n2 x2) (hne:e1≠e2):v1.ownBlock=none∨v1.ownBlock≠v2.ownBlock:=by
 cases hv:v1.ownBlock with
 | none=>exact .inl rfl
 | some k=>
  right;intro e;obtain⟨c1,q1,-⟩:=zb1 h1 hv;obtain⟨c2,q2,-⟩:=zb1 h2 e.symm;rw[q1]at q2
  injection q2 with q2
  injection q2 with _ q2
  exact hne q2
theorem zau {w w':World}{base:Nat}{e:TypeId}{sz:Nat}{v:Value}{n:Nat}{xs:List Value}(h:w.ownsRow base e sz v n xs) (hb:jb w w'):w'.ownsRow base e sz v n xs:=by
 refine⟨h.1,?_⟩;rcases h.2 with hn | ⟨g,cap,cur,rfl,hbg,hgg,rest⟩
 ·exact .inl hn
 ·exact .inr ⟨g,cap,cur,rfl,hbg,(hb.block g (zad hgg)).trans hgg,rest⟩
theorem zho {M:TypeId→Bool}{w:World}{base:Nat}{e:TypeId}{sz:Nat}{v:Value}{n:Nat}{xs:List Value}(h:w.ownsRow base e sz v n xs) (he:M e=false):(zb0 M w).ownsRow base e sz v n xs:=by
 refine⟨h.1,?_⟩;rcases h.2 with hn | ⟨g,cap,cur,rfl,hbg,hgg,rest⟩
 ·exact .inl hn
 ·exact .inr ⟨g,cap,cur,rfl,hbg,zhn hgg he,rest⟩
theorem zav {w:World}{base base':Nat}{e:TypeId}{sz:Nat}{v:Value}{n:Nat}{xs:List Value}(h:w.ownsRow base e sz v n xs) (hb:base'≤base):w.ownsRow base' e sz v n xs:=by
 refine⟨h.1,?_⟩;rcases h.2 with hn | ⟨g,cap,cur,rfl,hbg,rest⟩
 ·exact .inl hn
 ·exact .inr ⟨g,cap,cur,rfl,Nat.le_trans hb hbg,rest⟩
theorem zag {w:World}{base:Nat}{e:TypeId}{sz:Nat}{v:Value}{n:Nat}{xs:List Value}(h:w.ownsRow base e sz v n xs){a:Addr}(ha:a.block<base) (u:Value):(w.setCell a u).ownsRow base e sz v n xs:=by
 refine⟨h.1,?_⟩;rcases h.2 with hn | ⟨g,cap,cur,rfl,hbg,hgg,rest⟩
 ·exact .inl hn
 ·exact .inr ⟨g,cap,cur,rfl,hbg,(Below.heap_setCell w a u g (by omega)).trans hgg,rest⟩
theorem zhp {M:TypeId→Bool}{w w':World}{base:Nat}{e:TypeId}{sz:Nat}{v:Value}{n:Nat}{xs:List Value}(h:w.ownsRow base e sz v n xs) (he:M e=true) (hg:w.grownBy w' v.ownBlock):Same M w w':=fun k c t fr hk hm=>by
 refine(hg.block k (zad hk) fun e'=> ?_).trans hk;obtain⟨c',q,-⟩:=zb1 h e'.symm;rw[hk]at q
 injection q with q
 injection q with _ q
 subst q;rw[he]at hm;cases hm
theorem zcw {w w':World}{base B:Nat}{e:TypeId}{sz:Nat}{v:Value}{n:Nat}{xs:List Value}(h:w.ownsRow base e sz v n xs) (hB:B≤base) (hB2:B≤w.heap.size) (hg:w.grownBy w' v.ownBlock):Below B w w':=
 (Below.refl B w).grown hg hB2 fun k hk=>Nat.le_trans hB (h.lt k hk).1
theorem zdm {α:Type}(f:α→List Value) (sz:Nat): ∀(l:List α) (i j:Nat) (hi:i<l.length),(∀x∈l,(f x).length=sz)→j<sz→(l.flatMap f)[i * sz+j]? =(f l[i])[j]?
 | [],i,j,hi,_,_=>by simp at hi
 | x::l,0,j,_,hs,hj=>by
  rw[List.flatMap_cons,Nat.zero_mul,Nat.zero_add,List.getElem?_append_left (by rw[hs x List.mem_cons_self];exact hj)];rfl
 | x::l,i+1,j,hi,hs,hj=>by
  have hx:=hs x List.mem_cons_self;rw[List.flatMap_cons,List.getElem?_append_right (by rw[hx,Nat.add_mul];omega),hx];have e:(i+1) * sz+j-sz=i * sz+j:=by rw[Nat.add_mul];omega
  rw[e,zdm f sz l i j (by simpa using hi) (fun y hy=>hs y (List.mem_cons_of_mem _ hy)) hj];rfl
theorem zcc {α:Type}(f:α→List Value) (sz:Nat): ∀(l:List α),(∀x∈l,(f x).length=sz)→(l.flatMap f).length=l.length * sz
 | [],_=>by simp
 | x::l,hs=>by
  rw[List.flatMap_cons,List.length_append,hs x List.mem_cons_self,zcc f sz l (fun y hy=>hs y (List.mem_cons_of_mem _ hy)),List.length_cons,Nat.add_mul];omega
theorem zeo {α:Type}{w:World}{base:Nat}{e:TypeId}{sz:Nat}{v:Value}{l:List α}{f:α→List Value}{R:World→List Value→α→Prop}(h:w.ownsRow base e sz v l.length (l.flatMap f)) (hf: ∀x∈l,(f x).length=sz) (hR: ∀i (hi:i<l.length),R w (f l[i]) l[i]):Sl w sz R v l:=by
 rcases h.2 with⟨rfl,h0⟩ | ⟨g,cap,cur,rfl,hbg,hgg,hc,hm,hs,ht⟩
 ·have hn:l=[]:=List.eq_nil_of_length_eq_zero h0;subst hn;exact Sl.nil _ _ _
 ·refine⟨some ⟨g,0,none⟩,cap,rfl,hc,(fun h=>nomatch h),fun i hi=>⟨g,0,f l[i],rfl,hf _ (List.getElem_mem hi),fun j hj=> ?_,hR i hi⟩⟩;have hj':j<sz:=by rw[←hf _ (List.getElem_mem hi)];exact hj
  have h1:(l.flatMap f)[i * sz+j]? =some (f l[i])[j]:=by
   rw[zdm f sz l i j hi hf hj',List.getElem?_eq_getElem hj]
  have h2:=h.cells (g:=g) rfl (i * sz+j) _ h1;rw[zfc]at h2;rw[Nat.zero_add];exact h2
theorem zj2 {w:World}{base:Nat}{e:TypeId}{v:Value}{l:List Int}(h:w.ownsRow base e 1 v l.length (l.map (.int .i64))):ILv w v l:=by
 rcases h.2 with⟨rfl,h0⟩ | ⟨g,cap,cur,rfl,hbg,hgg,hc,hm,hs,ht⟩
 ·have hn:l=[]:=List.eq_nil_of_length_eq_zero h0;subst hn;exact⟨none,0,0,rfl,rfl,fun i hi=>by simp at hi⟩
 ·refine⟨some ⟨g,0,none⟩,l.length,cap,rfl,rfl,fun i hi=>⟨g,0,rfl,?_⟩⟩;have h2:=h.cells (g:=g) rfl i ↑l[i] (by simp[hi]);rw[zfc]at h2;rw[Nat.zero_add];exact h2
def zec (x:Ask):List Value:=[.int .i64 x.pt,.int .i64 x.lie,.int .i64 x.pl]
def jnC (x:Jn):List Value:=[.int .i64 x.to,.int .i64 x.en]
def AskOwn (w:World) (base:Nat) (v:Value) (l:List Ask):Prop:=w.ownsRow base 281 3 v l.length (l.flatMap zec)
def JnOwn (w:World) (base:Nat) (v:Value) (l:List Jn):Prop:=w.ownsRow base 133 2 v l.length (l.flatMap jnC)
theorem AskOwn.sl {w:World}{base:Nat}{v:Value}{l:List Ask}(h:AskOwn w base v l):zhm w v l:=zeo (f:=zec) h (fun _ _=>rfl) fun _ _=>rfl
theorem JnOwn.sl {w:World}{base:Nat}{v:Value}{l:List Jn}(h:JnOwn w base v l):Jns w v l:=zeo (f:=jnC) h (fun _ _=>rfl) fun _ _=>rfl
theorem AskOwn.nil (w:World) (base:Nat):AskOwn w base (.slice none 0 0) []:=World.ownsRow_nil w base 281 3
theorem JnOwn.nil (w:World) (base:Nat):JnOwn w base (.slice none 0 0) []:=World.ownsRow_nil w base 133 2
structure RowsX {α:Type}(M:TypeId→Bool) (w:World) (base:Nat) (T:TypeId) (sz:Nat) (R:World→List Value→α→Prop) (v:Value) (l:List α) (xss:List (List Value)):Prop where
 own:w.ownsRow base T sz v xss.length (xss.flatMap id)
 len:xss.length=l.length
 sz: ∀x∈xss,x.length=sz
 rd: ∀i (h:i<xss.length) (h':i<l.length),R (zb0 M w) xss[i] l[i]
section
variable {α:Type}{M:TypeId→Bool}{w w':World}{base:Nat}{T:TypeId}{sz:Nat}{R:World→List Value→α→Prop}{v:Value}{l:List α}{xss:List (List Value)}
theorem RowsX.nil:RowsX M w base T sz R (.slice none 0 0) ([]:List α) []:=⟨World.ownsRow_nil w base T sz,rfl,fun x h=>by simp at h,fun i h=>by simp at h⟩
theorem RowsX.below (h:RowsX M w base T sz R v l xss) (hR:KeepsC R) (hb:jb w w'):RowsX M w' base T sz R v l xss:=
 ⟨zau h.own hb,h.len,h.sz,fun i h1 h2=>hR _ _ _ _ (Same.of_below hb).ext (h.rd i h1 h2)⟩
theorem RowsX.app (h:RowsX M w base T sz R v l xss) (hR:KeepsC R) (hM:M T=true){vs:List Value}{x:α}(hvs:vs.length=sz) (hx:R (zb0 M w) vs x){v':Value}(ho:w'.ownsRow base T sz v' (xss.length+1) (xss.flatMap id++vs)) (hg:w.grownBy w' v.ownBlock):RowsX M w' base T sz R v' (l++[x]) (xss++[vs]):=by
 have hs:=(zhp h.own hM hg).ext;refine⟨by simpa using ho,by simp[h.len],fun y hy=> ?_,fun i h1 h2=> ?_⟩
 ·rcases List.mem_append.1 hy with hy | hy
  ·exact h.sz y hy
  ·rw[List.mem_singleton]at hy;subst hy;exact hvs
 ·by_cases hi:i<xss.length
  ·rw[List.getElem_append_left hi,List.getElem_append_left (by rw[←h.len];exact hi)];exact hR _ _ _ _ hs (h.rd i hi (by rw[←h.len];exact hi))
  ·have e:i=xss.length:=(by rw[List.length_append,List.length_singleton]at h1;omega);subst e;have e2:(l++[x])[xss.length]=x:=(by rw[List.getElem_append_right (by rw[h.len];exact Nat.le_refl _)];simp[h.len]);rw[e2];simp only[List.getElem_append_right (Nat.le_refl _),Nat.sub_self,List.getElem_cons_zero];exact hR _ _ _ _ hs hx
theorem RowsX.other (h:RowsX M w base T sz R v l xss) (hR:KeepsC R){b2:Nat}{T2:TypeId}{s2 n2:Nat}{v2:Value}{x2:List Value}(h2:w.ownsRow b2 T2 s2 v2 n2 x2) (hM:M T2=true) (hne:T≠T2) (hg:w.grownBy w' v2.ownBlock):RowsX M w' base T sz R v l xss:=
 ⟨h.own.kept hg (zdx h.own h2 hne),h.len,h.sz,fun i h1 h3=>hR _ _ _ _ (zhp h2 hM hg).ext (h.rd i h1 h3)⟩
theorem RowsX.sl (h:RowsX M w base T sz R v l xss) (hR:KeepsC R):Sl w sz R v l:=by
 have hl:=h.len;rcases h.own.2 with⟨rfl,h0⟩ | ⟨g,cap,cur,rfl,hbg,hgg,hc,hm,hs,ht⟩
 ·have hn:l=[]:=List.eq_nil_of_length_eq_zero (by omega);subst hn;exact Sl.nil _ _ _
 ·refine⟨some ⟨g,0,none⟩,cap,by rw[hl],by rw[←hl];exact hc,(fun h=>nomatch h),fun i hi=> ?_⟩;have hi':i<xss.length:=by rw[hl];exact hi
  refine⟨g,0,xss[i],rfl,h.sz _ (List.getElem_mem hi'),fun j hj=> ?_,hR _ _ _ _ (zio M w) (h.rd i hi' hi)⟩
  have h1:(xss.flatMap id)[i * sz+j]? =some xss[i][j]:=by
   rw[zdm id sz xss i j hi' h.sz (by rw[←h.sz _ (List.getElem_mem hi')];exact hj)];exact List.getElem?_eq_getElem hj
  have h2:=h.own.cells (g:=g) rfl (i * sz+j) _ h1;rw[zfc]at h2;rw[Nat.zero_add];exact h2
end
theorem zey {W:World}{ops:Array Oper}{rest:List Oper}{o:Oper}{a:Act}{Q:Exit→Act→World→Prop}(hgd:o.guard=none) (s x:Operand) (t e T:TypeId) (z:Value) (size bytes:Nat)
  (ho:o.op= .call {callee:= .builtin .append,args:=#[s,x],argTypes:=#[t,t]}) (ht:Tryz.prog.underlying t=some (.slice e)) (hi:(Tryz.prog.info? e).map (fun i=>(i.zero,i.size,i.bytes))=some (some z,size,bytes))
  (hzs:z.cells.size=size) (hsz:0<size) (hby:bytes≤1000) (base:Nat) (v:Value) (n:Nat) (xs:List Value) (hs:a.eval s=v) (hown:W.ownsRow base e size v n xs) (hn:n≤1000) (hbase:base≤W.heap.size)
  (news:List Value) (hx:a.eval x= .slice (some ⟨W.heap.size,0,none⟩) 1 1) (hl:news.length=size) (h1: ∀u∈news,u.oneCell'=true)
  (h: ∀(b' c':Nat) w',w'.ownsRow base e size (jq b' 0 (n+1) c') (n+1) (xs++news)→(W.alloc (.cells news.toArray T)).grownBy w' v.ownBlock→wpList Tryz.prog ops Q rest (a.put o.dst (jq b' 0 (n+1) c')) w'):
  wpList Tryz.prog ops Q (o::rest) a (W.alloc (.cells news.toArray T)):=by
 obtain⟨i0,hi,hz0,hz1,hz2⟩:=info_parts hi;refine wpList_append_own_at _ hgd s x t ho base e i0 z size bytes ht hi hz0 hz1 hz2 hzs hsz v n xs hs (hown.alloc _) ⟨W.heap.size,0,none⟩ 1 1 news hx (by rw[hl,Nat.one_mul]) ?_ h1 (by unfold maxLen;omega) ?_ (by simp;omega) ?_
 ·intro j u hj;have hb:(W.alloc (.cells news.toArray T)).heap[W.heap.size]? =some (.cells news.toArray T (0,0)):=heap_alloc_new W _;rw[zfc,cell_of_row _ _ j _ _ _ hb]
  simpa using hj
 ·have:(n+1) * bytes≤1001 * 1000:=Nat.mul_le_mul (by omega) hby
  omega
 ·intro v' w' h2 h3 _ _;rcases h2.2 with⟨_,h0⟩ | ⟨g,cap,cur,rfl,_⟩
  ·omega
  ·exact h g cap w' h2 h3
theorem zhq:(Tryz.prog.info? 281).map (fun i=>(i.zero,i.size,i.bytes))=some (some (.agg #[.int .i64 0,.int .i64 0,.int .i64 0]),3,24):=by kernel_rfl
theorem zj3:(Tryz.prog.info? 133).map (fun i=>(i.zero,i.size,i.bytes))=some (some (.agg #[.int .i64 0,.int .i64 0]),2,16):=by kernel_rfl
theorem zf5 (a:Option Addr) (cap:Nat) (l:List Sec) (n:Int) (w:World) (hl:SlA w 3 zas a cap l) (hm:l.length≤1000):
  Calls Tryz.prog 255 #[js a l.length cap,n] w fun e w'=>e= .returned (.int .i64 (fix (fun x=>decide (x.id=n)) l))∧w=w':=by
 have HL:=hI hl;clear hl;go_enter Tryz.func255,Tryz.ntmps255;go_wp2_with fail
 go_loop [5] (fun i=> ∃k:Nat,k≤l.length∧i= .int .i64 k∧ ∀j (h:j<l.length),j<k→decide (l[j].id=n)=false) (fun i=>l.length-(intOf i).toNat)
 case atStart=>exact⟨0,by omega,rfl,fun j h h0=>by omega⟩
 case round=>
  obtain⟨k,hk,rfl,hno⟩:=hrel;have HNO:=hI hno;clear hno;by_cases hlt:k<l.length
  ·have hd:decide ((k:Int)<(l.length:Int))=true:=(by simp;omega);obtain⟨b,off,_,_,rfl,hc,-⟩:=HL.sec hlt;have c0:(0:Int)≤(k:Int):=(by omega);have c1:(k:Int)<(l.length:Int):=(by omega);by_cases he:l[k].id=n
   ·have heq:(l[k].id==n)=true:=(by rw[beq_iff_eq];exact he);have HE:Hid (fix (fun x=>decide (x.id=n)) l=(k:Int)):=zfw hlt (by simpa using he) HNO;clear he;go_wp2_with fail;go_ret;exact⟨za0 HE.symm,rfl⟩
   ·have heq:(l[k].id==n)=false:=(by rw[beq_eq_false_iff_ne];exact he);have HE:Hid (decide (l[k].id=n)=false):=(by show _=_;simpa using he);clear he;go_wp2_with fail;go_round
    case rel=>
     refine⟨k+1,by omega,by go_num,fun j h hj=> ?_⟩;by_cases hjk:j=k
     ·subst hjk;exact HE
     ·exact HNO j h (by omega)
    case measure=>simp[intOf];omega
  ·obtain rfl:k=l.length:=(by omega);have HE:Hid (fix (fun x=>decide (x.id=n)) l= -1):=zfx fun j hj=>HNO j hj hj;go_wp2_with fail;go_ret;exact⟨za0 HE.symm,rfl⟩
theorem zrs (a:Option Addr) (cap:Nat) (l:List Pt) (n:Int) (w:World) (hl:SlA w 2 RPt a cap l) (hm:l.length≤1000):
  Calls Tryz.prog 257 #[js a l.length cap,n] w fun e w'=>e= .returned (.int .i64 (fix (fun x=>decide (x.id=n)) l))∧w=w':=by
 have HL:=hI hl;clear hl;go_enter Tryz.func257,Tryz.ntmps257;go_wp2_with fail
 go_loop [5] (fun i=> ∃k:Nat,k≤l.length∧i= .int .i64 k∧ ∀j (h:j<l.length),j<k→decide (l[j].id=n)=false) (fun i=>l.length-(intOf i).toNat)
 case atStart=>exact⟨0,by omega,rfl,fun j h h0=>by omega⟩
 case round=>
  obtain⟨k,hk,rfl,hno⟩:=hrel;have HNO:=hI hno;clear hno;by_cases hlt:k<l.length
  ·have hd:decide ((k:Int)<(l.length:Int))=true:=(by simp;omega);obtain⟨b,off,rfl,hc,-⟩:=HL.pt hlt;have c0:(0:Int)≤(k:Int):=(by omega);have c1:(k:Int)<(l.length:Int):=(by omega);by_cases he:l[k].id=n
   ·have heq:(l[k].id==n)=true:=(by rw[beq_iff_eq];exact he);have HE:Hid (fix (fun x=>decide (x.id=n)) l=(k:Int)):=zfw hlt (by simpa using he) HNO;clear he;go_wp2_with fail;go_ret;exact⟨za0 HE.symm,rfl⟩
   ·have heq:(l[k].id==n)=false:=(by rw[beq_eq_false_iff_ne];exact he);have HE:Hid (decide (l[k].id=n)=false):=(by show _=_;simpa using he);clear he;go_wp2_with fail;go_round
    case rel=>
     refine⟨k+1,by omega,by go_num,fun j h hj=> ?_⟩;by_cases hjk:j=k
     ·subst hjk;exact HE
     ·exact HNO j h (by omega)
    case measure=>simp[intOf];omega
  ·obtain rfl:k=l.length:=(by omega);have HE:Hid (fix (fun x=>decide (x.id=n)) l= -1):=zfx fun j hj=>HNO j hj hj;go_wp2_with fail;go_ret;exact⟨za0 HE.symm,rfl⟩
theorem zgz (a:Option Addr) (cap:Nat) (l:List Sg) (n:Int) (w:World) (hl:SlA w 3 RSg a cap l) (hm:l.length≤1000):
  Calls Tryz.prog 311 #[js a l.length cap,n] w fun e w'=>e= .returned (.int .i64 (fix (fun x=>decide (x.id=n)) l))∧w=w':=by
 have HL:=hI hl;clear hl;go_enter Tryz.func311,Tryz.ntmps311;go_wp2_with fail
 go_loop [5] (fun i=> ∃k:Nat,k≤l.length∧i= .int .i64 k∧ ∀j (h:j<l.length),j<k→decide (l[j].id=n)=false) (fun i=>l.length-(intOf i).toNat)
 case atStart=>exact⟨0,by omega,rfl,fun j h h0=>by omega⟩
 case round=>
  obtain⟨k,hk,rfl,hno⟩:=hrel;have HNO:=hI hno;clear hno;by_cases hlt:k<l.length
  ·have hd:decide ((k:Int)<(l.length:Int))=true:=(by simp;omega);obtain⟨b,off,rfl,hc,-⟩:=HL.sg hlt;have c0:(0:Int)≤(k:Int):=(by omega);have c1:(k:Int)<(l.length:Int):=(by omega);by_cases he:l[k].id=n
   ·have heq:(l[k].id==n)=true:=(by rw[beq_iff_eq];exact he);have HE:Hid (fix (fun x=>decide (x.id=n)) l=(k:Int)):=zfw hlt (by simpa using he) HNO;clear he;go_wp2_with fail;go_ret;exact⟨za0 HE.symm,rfl⟩
   ·have heq:(l[k].id==n)=false:=(by rw[beq_eq_false_iff_ne];exact he);have HE:Hid (decide (l[k].id=n)=false):=(by show _=_;simpa using he);clear he;go_wp2_with fail;go_round
    case rel=>
     refine⟨k+1,by omega,by go_num,fun j h hj=> ?_⟩;by_cases hjk:j=k
     ·subst hjk;exact HE
     ·exact HNO j h (by omega)
    case measure=>simp[intOf];omega
  ·obtain rfl:k=l.length:=(by omega);have HE:Hid (fix (fun x=>decide (x.id=n)) l= -1):=zfx fun j hj=>HNO j hj hj;go_wp2_with fail;go_ret;exact⟨za0 HE.symm,rfl⟩
theorem zrt (a:Option Addr) (cap:Nat) (l:List Rt) (n:Int) (w:World) (hl:SlA w 7 RRt a cap l) (hm:l.length≤1000):
  Calls Tryz.prog 218 #[js a l.length cap,n] w fun e w'=>e= .returned (.int .i64 (fix (fun x=>decide (x.id=n)) l))∧w=w':=by
 have HL:=hI hl;clear hl;go_enter Tryz.func218,Tryz.ntmps218;go_wp2_with fail
 go_loop [5] (fun i=> ∃k:Nat,k≤l.length∧i= .int .i64 k∧ ∀j (h:j<l.length),j<k→decide (l[j].id=n)=false) (fun i=>l.length-(intOf i).toNat)
 case atStart=>exact⟨0,by omega,rfl,fun j h h0=>by omega⟩
 case round=>
  obtain⟨k,hk,rfl,hno⟩:=hrel;have HNO:=hI hno;clear hno;by_cases hlt:k<l.length
  ·have hd:decide ((k:Int)<(l.length:Int))=true:=(by simp;omega);obtain⟨b,off,_,_,_,rfl,hc,-⟩:=HL.rt hlt;have c0:(0:Int)≤(k:Int):=(by omega);have c1:(k:Int)<(l.length:Int):=(by omega);by_cases he:l[k].id=n
   ·have heq:(l[k].id==n)=true:=(by rw[beq_iff_eq];exact he);have HE:Hid (fix (fun x=>decide (x.id=n)) l=(k:Int)):=zfw hlt (by simpa using he) HNO;clear he;go_wp2_with fail;go_ret;exact⟨za0 HE.symm,rfl⟩
   ·have heq:(l[k].id==n)=false:=(by rw[beq_eq_false_iff_ne];exact he);have HE:Hid (decide (l[k].id=n)=false):=(by show _=_;simpa using he);clear he;go_wp2_with fail;go_round
    case rel=>
     refine⟨k+1,by omega,by go_num,fun j h hj=> ?_⟩;by_cases hjk:j=k
     ·subst hjk;exact HE
     ·exact HNO j h (by omega)
    case measure=>simp[intOf];omega
  ·obtain rfl:k=l.length:=(by omega);have HE:Hid (fix (fun x=>decide (x.id=n)) l= -1):=zfx fun j hj=>HNO j hj hj;go_wp2_with fail;go_ret;exact⟨za0 HE.symm,rfl⟩
theorem zhr (a b c d:Int) (w:World):Sem.run Tryz.prog (binOp .eql 133 (.agg #[a,b]) (.agg #[c,d])) w= .ok (.bool (decide (a=c∧b=d))) w:=by
 by_cases h1:a=c
 ·by_cases h2:b=d
  ·simp[go_sem,h1,h2]
  ·simp[go_sem,h1,h2]
 ·simp[go_sem,h1]
theorem zmh (a b c d:Int) (w:World):Sem.run Tryz.prog (binOp .neq 133 (.agg #[a,b]) (.agg #[c,d])) w= .ok (.bool (!decide (a=c∧b=d))) w:=by
 by_cases h1:a=c
 ·by_cases h2:b=d
  ·simp[go_sem,h1,h2]
  ·simp[go_sem,h1,h2]
 ·simp[go_sem,h1]
end Go.Proofs.YtbiehpjhhopjaaaGreat
namespace Go.Proofs.YtbiehpjhhopjaaaGreat
open Go.RowKit Go.Sort
theorem zru (v:Value) (w:World):Sem.run Tryz.prog (Instr.typeAssert (.iface 143 v) 20 143 true) w= .ok (.tuple #[v,.bool true]) w:=by kernel_rfl
theorem zrv (v:Value) (w:World):Sem.run Tryz.prog (Instr.typeAssert (.iface 145 v) 20 143 true) w= .ok (.tuple #[.agg #[.int .i64 0,.int .i64 0],.bool false]) w:=by kernel_rfl
theorem zrw (v:Value) (w:World):Sem.run Tryz.prog (Instr.typeAssert (.iface 145 v) 20 145 true) w= .ok (.tuple #[v,.bool true]) w:=by kernel_rfl
theorem zrx (v:Value) (w:World):Sem.run Tryz.prog (Instr.typeAssert (.iface 102 v) 20 143 true) w= .ok (.tuple #[.agg #[.int .i64 0,.int .i64 0],.bool false]) w:=by kernel_rfl
theorem zry (v:Value) (w:World):Sem.run Tryz.prog (Instr.typeAssert (.iface 102 v) 20 145 true) w= .ok (.tuple #[.agg #[.int .i64 0,.int .i64 0,.int .i64 0],.bool false]) w:=by kernel_rfl
theorem zrz (v:Value) (w:World):Sem.run Tryz.prog (Instr.typeAssert (.iface 102 v) 20 102 true) w= .ok (.tuple #[v,.bool true]) w:=by kernel_rfl
theorem zj4 (id sec:Int) (w:World):Calls Tryz.prog 413 #[.agg #[id,sec]] w fun e w'=>e= .returned (.int .i64 id)∧jb w w':=by
 have h1:=zru;go_enter Tryz.func413,Tryz.ntmps413;go_wp2_with fail;go_ret;exact⟨rfl,jal.alloc (by simp) _⟩
theorem zj5 (id sec en:Int) (w:World):Calls Tryz.prog 414 #[.agg #[id,sec,en]] w fun e w'=>e= .returned (.int .i64 id)∧jb w w':=by
 have h1:=zrv;have h2:=zrw;go_enter Tryz.func414,Tryz.ntmps414;go_wp2_with fail;go_ret;exact⟨rfl,jal.alloc (by simp) _⟩
theorem zmi (id entry exit timer:Int) (a b c:Option Addr) (la lb lc ca cb cc:Nat) (w:World):Calls Tryz.prog 372 #[.agg #[id,entry,exit,js a la ca,js b lb cb,js c lc cc,timer]] w fun e w'=>e= .returned (.int .i64 id)∧jb w w':=by
 have h1:=zrx;have h2:=zry;have h3:=zrz;go_enter Tryz.func372,Tryz.ntmps372;go_wp2_with fail;go_ret;exact⟨rfl,jal.alloc (by simp) _⟩
end Go.Proofs.YtbiehpjhhopjaaaGreat
