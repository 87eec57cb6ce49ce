/-
 Sections:small functions of package track and of its reference,walked.
-/
import Derived.Test.YtbiehpjhhopjaaaGreatTPlanA
import Derived.Deep.RegionHeld3
set_option linter.unusedVariables false
set_option linter.unusedSimpArgs false
set_option maxRecDepth 100000
set_option maxHeartbeats 16000000
namespace Go.Proofs.YtbiehpjhhopjaaaGreat
open Go.RowKit
def zcd (s:Sec) (a:Option Addr) (c:Nat):Value:= .agg #[s.id,s.pt,js a s.ends.length c]
theorem zg0 (n:Int) (w:World):Calls Tryz.prog 373 #[n] w fun e w'=>e= .returned (.bool (decide (1≤n)&&decide (n≤99)))∧w=w':=by
 go_enter Tryz.func373,Tryz.ntmps373;go_wp2_with fail
 all_goals
  go_ret;refine⟨zab ?_,rfl⟩;simp<;>omega
theorem zip (s:Sec) (a:Option Addr) (c:Nat) (w:World):Calls Tryz.prog 374 #[zcd s a c] w fun e w'=>e= .returned (.bool (decide s.Shaped))∧jb w w':=by
 have HE:Hid (s.Shaped↔((s.pt=0∧s.ends.length=2)∨(1≤s.pt∧s.pt≤99∧s.ends.length=3))):=Iff.rfl;unfold zcd;generalize s.ends.length=n at *;generalize s.pt=q at *;by_cases h0:q=0
 ·subst h0;by_cases h2:n=2
  ·subst h2;go_enter Tryz.func374,Tryz.ntmps374;go_wp2_with (go_at_call 373;refine(zg0 _ _).mono ?_;rintro e w' ⟨rfl,rfl⟩);go_ret;exact⟨zab (by have h:=HE.out;simp at h;simp[h]),jal⟩
  ·have hd:((n:Int)==2)=false:=(by rw[beq_eq_false_iff_ne];omega);go_enter Tryz.func374,Tryz.ntmps374;go_wp2_with (go_at_call 373;refine(zg0 _ _).mono ?_;rintro e w' ⟨rfl,rfl⟩);go_ret;exact⟨zab (by have h:=HE.out;simp[h2]at h;simp[h]),jal⟩
 ·have hd:(q==0)=false:=by rw[beq_eq_false_iff_ne];exact h0
  by_cases h1:1≤q∧q≤99
  ·have e1:(decide (1≤q)&&decide (q≤99))=true:=(by simp[h1]);by_cases h3:n=3
   ·subst h3;go_enter Tryz.func374,Tryz.ntmps374;go_wp2_with (go_at_call 373;refine(zg0 _ _).mono ?_;rintro e w' ⟨rfl,rfl⟩);go_ret;exact⟨zab (by have h:=HE.out;simp[h0,h1]at h;simp[h]),jal⟩
   ·have hd:((n:Int)==3)=false:=(by rw[beq_eq_false_iff_ne];omega);go_enter Tryz.func374,Tryz.ntmps374;go_wp2_with (go_at_call 373;refine(zg0 _ _).mono ?_;rintro e w' ⟨rfl,rfl⟩);go_ret;exact⟨zab (by have h:=HE.out;simp[h0,h3]at h;simp[h]),jal⟩
  ·have e1:(decide (1≤q)&&decide (q≤99))=false:=by
    cases hh:(decide (1≤q)&&decide (q≤99))with
    | false=>rfl
    | true=>simp at hh;exact absurd hh h1
   go_enter Tryz.func374,Tryz.ntmps374;go_wp2_with (go_at_call 373;refine(zg0 _ _).mono ?_;rintro e w' ⟨rfl,rfl⟩);go_ret;exact⟨zab (by have h:=HE.out;simp[h0]at h;simp[h];intro a b;exact absurd ⟨a,b⟩ h1),jal⟩
theorem zr0 (s:Sec) (a:Option Addr) (c:Nat) (w:World):Calls Tryz.prog 309 #[zcd s a c] w fun e w'=>e= .returned (.bool (decide s.Shaped))∧jb w w':=by
 have HE:Hid (s.Shaped↔((s.pt=0∧s.ends.length=2)∨(1≤s.pt∧s.pt≤99∧s.ends.length=3))):=Iff.rfl;unfold zcd;generalize s.ends.length=n at *;generalize s.pt=q at *;by_cases h0:q=0
 ·subst h0;go_enter Tryz.func309,Tryz.ntmps309;go_wp2_with fail;go_ret;exact⟨zab (by have h:=HE.out;simp at h;rw[Bool.eq_iff_iff];simp[h];try omega),jal⟩
 ·have hd:(q==0)=false:=by rw[beq_eq_false_iff_ne];exact h0
  go_enter Tryz.func309,Tryz.ntmps309;go_wp2_with fail
  all_goals
   go_ret;exact⟨zab (by have h:=HE.out;simp[h0]at h;rw[Bool.eq_iff_iff];simp[h];try omega),jal⟩
def zdy (a b:Int):Int:=if a<b then-1 else if b<a then 1 else 0
theorem zr1 (n:Int) (w:World):Calls Tryz.prog 401 #[n] w fun e w'=>e= .returned (.bool false)∧w=w':=by
 go_enter Tryz.func401,Tryz.ntmps401;go_wp2_with fail;go_ret;exact⟨zab (by simp),rfl⟩
theorem zr2 (a b:Int) (w:World):Calls Tryz.prog 412 #[a,b] w fun e w'=>e= .returned (.int .i64 (zdy a b))∧w=w':=by
 have HE:Hid (zdy a b=if a<b then-1 else if b<a then 1 else 0):=rfl;go_enter Tryz.func412,Tryz.ntmps412;go_wp2_with (go_at_call 401;refine(zr1 _ _).mono ?_;rintro e w' ⟨rfl,rfl⟩)
 all_goals
  go_ret;refine⟨za0 ?_,rfl⟩;rw[HE.out];split<;>(try split)<;>first | rfl | omega
theorem zj6 (s:Sec) (a:Option Addr) (c:Nat) (n:Int) (w:World):Calls Tryz.prog 411 #[zcd s a c,n] w fun e w'=>e= .returned (.int .i64 (zdy s.id n))∧jb w w':=by
 unfold zcd;go_enter Tryz.func411,Tryz.ntmps411;go_wp2_with (go_at_call 412;refine(zr2 _ _ _).mono ?_;rintro e w' ⟨rfl,rfl⟩);go_ret;exact⟨rfl,jal⟩
def zg1 (l:List Sec):Prop:= ∀i j (hi:i<l.length) (hj:j<l.length),i<j→l[i].id<l[j].id
def zj7 (l:List Sec) (n:Int) (k:Nat) (b:Bool):Prop:=k≤l.length∧(b=true→ ∃h:k<l.length,l[k].id=n)∧(b=false→ ∀j (h:j<l.length),l[j].id≠n)
def zmj (l:List Sec) (n:Int) (w:World) (e:Ending) (w':World):Prop:= ∃k b,e= .returned (.tuple #[.int .i64 ((k:Nat):Int),.bool b])∧zj7 l n k b∧jb w w'
theorem zr3 (a:Option Addr) (cap:Nat) (l:List Sec) (n:Int) (w:World) (hl:SlA w 3 zas a cap l) (hm:l.length≤1000) (hr:zg1 l):
  Calls Tryz.prog 410 #[js a l.length cap,n,.func (.func 411) #[] #[]] w (zmj l n w):=by
 have HL:Hid (∀w',jb w w'→SlA w' 3 zas a cap l):=fun w' hb=>hl.below zbo hb;have HR:=hI hr;clear hl hr;go_enter Tryz.func410,Tryz.ntmps410;go_wp2_with fail
 go_loopw [9,10] (fun i j wr=> ∃p q:Nat,p≤q∧q≤l.length∧i= .int .i64 p∧j= .int .i64 q∧jb w wr∧(∀m (h:m<l.length),m<p→l[m].id<n)∧(∀m (h:m<l.length),q≤m→n≤l[m].id)) (fun i j _=>(intOf j).toNat-(intOf i).toNat)
 case atStart=>exact⟨0,l.length,by omega,by omega,rfl,rfl,Below.refl _ _,fun m h h0=>by omega,fun m h h0=>by omega⟩
 case round=>
  obtain⟨p,q,hpq,hq,rfl,rfl,hb,hlo,hhi⟩:=hrel;have HLO:=hI hlo;have HHI:=hI hhi;have HB:=hI hb;clear hlo hhi hb;by_cases hlt:p<q
  ·have hd:decide ((p:Int)<(q:Int))=true:=(by simp;omega);obtain⟨m,hmd⟩: ∃m,(p+q) / 2=m:=⟨_,rfl⟩;have hmm:((p:Int)+(q:Int)) / 2=(m:Int):=(by omega);have hmp:p≤m:=(by omega);have hmq:m<q:=(by omega);have hml:m<l.length:=(by omega);clear hmd;obtain⟨b,off,a',c',rfl,x0,x1,x2,-⟩:=(HL _ HB).sec hml;have c0:(0:Int)≤(m:Int):=(by omega);have c1:(m:Int)<(l.length:Int):=(by omega);by_cases he:l[m].id<n
   ·have HE:=hI he;have ht:zdy l[m].id n= -1:=by unfold zdy;rw[if_pos he]
    have HP:Hid (∀W,Calls Tryz.prog 411 #[.agg #[l[m].id,l[m].pt,js a' l[m].ends.length c'],n] W fun e w'=>e= .returned (.int .i64 (-1))∧jb W w'):=fun W=>by
     have:=zj6 l[m] a' c' n W;rw[ht]at this;exact this
    clear he ht;go_wp2_with fail;refine(HP _).mono ?_;rintro e w1 ⟨rfl,hb1⟩;have K1:=jh HB hb1;clear hb1;go_wp2_with fail
    go_roundw
    case rel=>
     refine⟨m+1,q,by omega,hq,by go_num,rfl,K1,fun t h hlt2=> ?_,HHI⟩;by_cases htm:t=m
     ·subst htm;exact HE
     ·have:=HR t m h hml (by omega);have:=HE.out;omega
    case measure=>simp[intOf];omega
   ·have HE:=hI he;have ht:0≤zdy l[m].id n:=(by unfold zdy;rw[if_neg he];split<;>omega);have hz:decide (zdy l[m].id n<0)=false:=(by simp;omega);have HP:Hid (∀W,Calls Tryz.prog 411 #[.agg #[l[m].id,l[m].pt,js a' l[m].ends.length c'],n] W fun e w'=>e= .returned (.int .i64 (zdy l[m].id n))∧jb W w'):=fun W=>zj6 l[m] a' c' n W;clear he ht;generalize zdy l[m].id n=z at *;go_wp2_with fail;refine(HP _).mono ?_;rintro e w1 ⟨rfl,hb1⟩;have K1:=jh HB hb1;clear hb1;go_wp2_with fail
    go_roundw
    case rel=>
     refine⟨p,m,hmp,by omega,rfl,rfl,K1,HLO,fun t h hlt2=> ?_⟩;by_cases htm:t=m
     ·subst htm;have:=HE.out;omega
     ·have:=HR m t hml h (by omega);have:=HE.out;omega
    case measure=>simp[intOf];omega
  ·obtain rfl:p=q:=(by omega);have hd:decide ((p:Int)<(p:Int))=false:=(by simp);by_cases hpl:p<l.length
   ·have hd2:decide ((p:Int)<(l.length:Int))=true:=(by simp;omega);obtain⟨b,off,a',c',rfl,x0,x1,x2,-⟩:=(HL _ HB).sec hpl;have c0:(0:Int)≤(p:Int):=(by omega);have c1:(p:Int)<(l.length:Int):=(by omega);have HP:Hid (∀W,Calls Tryz.prog 411 #[.agg #[l[p].id,l[p].pt,js a' l[p].ends.length c'],n] W fun e w'=>e= .returned (.int .i64 (zdy l[p].id n))∧jb W w'):=fun W=>zj6 l[p] a' c' n W
    have HPA:Hid (zj7 l n p (zdy l[p].id n==0)):=by
     refine⟨hq,fun h=>⟨hpl,?_⟩,fun h j hj=> ?_⟩
     ·have h:=beq_iff_eq.1 h;unfold zdy at h;split at h
      ·omega
      ·split at h<;>omega
     ·have h:=beq_eq_false_iff_ne.1 h;have h1:=HHI p hpl (Nat.le_refl _)
      have h2:l[p].id≠n:=by
       intro e;apply h;unfold zdy;rw[e];simp
      by_cases hjp:j<p
      ·have:=HLO j hj hjp;omega
      ·by_cases hje:j=p
       ·subst hje;exact h2
       ·have:=HR p j hpl hj (by omega);omega
    generalize zdy l[p].id n=z at *;go_wp2_with fail;refine(HP _).mono ?_;rintro e w1 ⟨rfl,hb1⟩;have K1:=jh HB hb1;clear hb1;go_wp2_with fail
    go_ret2
    exact⟨p,_,rfl,HPA,K1⟩
   ·have hd2:decide ((p:Int)<(l.length:Int))=false:=(by simp;omega);have HPA:Hid (zj7 l n p false):=⟨hq,fun h=>by simp at h,fun _ j hj=>by have:=HLO j hj (by omega);omega⟩;go_wp2_with fail
    go_ret2
    exact⟨p,_,rfl,HPA,HB⟩
theorem zr4 (a:Option Addr) (cap:Nat) (l:List Sec) (n:Int) (w:World) (hl:SlA w 3 zas a cap l) (hm:l.length≤1000) (hr:zg1 l):
  Calls Tryz.prog 375 #[js a l.length cap,n] w (zmj l n w):=by
 have HS:=hI (zr3 a cap l n w hl hm hr);clear hl hr;go_enter Tryz.func375,Tryz.ntmps375;go_wp2_with fail;refine HS.mono ?_;rintro e w1 ⟨k,b,rfl,hp,hb⟩;have HP:=hI hp;have HB:=hI hb;clear hp hb;go_wp2_with fail
 go_ret2
 exact⟨k,b,rfl,HP,HB⟩
theorem zr5 (a:Option Addr) (cap:Nat) (l:List Sec) (n:Int) (w:World) (hl:SlA w 3 zas a cap l) (hm:l.length≤1000):
  Calls Tryz.prog 255 #[js a l.length cap,n] w fun e w'=>e= .returned (.int .i64 (fix (fun x=>decide (x.id=n)) l))∧jb w w':=
 (zf5 a cap l n w hl hm).mono fun e w' ⟨h1,h2⟩=>⟨h1,by subst h2;exact Below.refl _ _⟩
theorem zmk {l:List Sec}(hr:zg1 l){s:Sec}{e:Nat}{j:Jn}{k:Nat}(hk:k<l.length) (hid:l[k].id=j.to) (hz: ¬(j.to=0∧j.en=0)):
  zdf l s e j↔(¬(j.to=s.id∧j.en=e)∧0≤j.en∧l[k].ends[j.en.toNat]? =some ⟨s.id,e⟩):=by
 unfold zdf;constructor
 ·rintro(h | ⟨h1,t,ht,h2,h3,h4⟩)
  ·exact absurd h hz
  ·obtain⟨i,hi,rfl⟩:=List.getElem_of_mem ht
   have:i=k:=by
    rcases Nat.lt_trichotomy i k with h | h | h
    ·have:=hr i k hi hk h;omega
    ·exact h
    ·have:=hr k i hk hi h;omega
   subst this;exact⟨h1,h3,h4⟩
 ·rintro⟨h1,h3,h4⟩;exact .inr ⟨h1,l[k],List.getElem_mem hk,hid,h3,h4⟩
theorem zml {l:List Sec}{s:Sec}{e:Nat}{j:Jn}(hno: ∀i (h:i<l.length),decide (l[i].id=j.to)=false) (hz: ¬(j.to=0∧j.en=0)): ¬zdf l s e j:=by
 rintro(h | ⟨h1,t,ht,h2,h3,h4⟩)
 ·exact hz h
 ·obtain⟨i,hi,rfl⟩:=List.getElem_of_mem ht;have:=hno i hi;simp[h2]at this
def zae (w:World) (b:Bool) (e:Ending) (w':World):Prop:=e= .returned (.bool b)∧jb w w'
structure zr6 (l:List Sec) (sid:Int) (e:Nat) (j:Jn) (b:Bool):Prop where
 zero:(j.to=0∧j.en=0)→b=true
 none:(∀i (h:i<l.length),decide (l[i].id=j.to)=false)→ ¬(j.to=0∧j.en=0)→b=false
 at_: ∀k (h:k<l.length),l[k].id=j.to→ ¬(j.to=0∧j.en=0)→(b=true↔(¬(j.to=sid∧j.en=e)∧0≤j.en∧l[k].ends[j.en.toNat]? =some ⟨sid,e⟩))
theorem zr7 (a:Option Addr) (cap:Nat) (l:List Sec) (sid spt:Int) (b2 o2 ns c2:Nat) (e:Nat) (he:e<ns) (j:Jn) (B:Bool) (w:World) (hl:SlA w 3 zas a cap l) (hj0:jc w b2 (o2+e * 2) j.to) (hj1:jc w b2 (o2+e * 2+1) j.en) (hm:l.length≤1000) (hmm: ∀i (h:i<l.length),l[i].ends.length≤8796093022208) (hm2:ns≤8796093022208) (hB:zr6 l sid e j B):
  Calls Tryz.prog 310 #[js a l.length cap,.agg #[sid,spt,jq b2 o2 ns c2],.int .i64 (e:Int)] w (zae w B):=by
 have HL:Hid (∀w',jb w w'→SlA w' 3 zas a cap l):=fun w' hb=>hl.below zbo hb;have c0:(0:Int)≤(e:Int):=by omega
 have c1:(e:Int)<(ns:Int):=by omega
 have b2lt:=block_lt_of_cell hj0;have HB:=hI hB;have HMM:=hI hmm;clear hl hB hmm;obtain⟨jt,je⟩:=j;simp only[]at hj0 hj1;have k0:jb w ((w.alloc (.cells #[sid,spt,jq b2 o2 ns c2] 80)).alloc (.cells #[jt,je] 133)):=jal.alloc (by simp) _;have K0:=hI k0;clear k0;by_cases hz:jt=0∧je=0
 ·have HE:=hI (HB.zero hz);obtain⟨rfl,rfl⟩:=hz;go_enter Tryz.func310,Tryz.ntmps310;go_wp2_with fail;go_ret;exact⟨zab HE.symm,K0⟩
 ·have HZ:=hI hz
  have e12:((jt==0)=false∨((jt==0)=true∧(je==0)=false)):=by
   by_cases h0:jt=0
   ·right;exact⟨by rw[beq_iff_eq];exact h0,by rw[beq_eq_false_iff_ne];intro h;exact hz ⟨h0,h⟩⟩
   ·left;rw[beq_eq_false_iff_ne];exact h0
  clear hz
  have rest:Calls Tryz.prog 310 #[js a l.length cap,.agg #[sid,spt,jq b2 o2 ns c2],.int .i64 (e:Int)] w (zae w B):=by
   rcases e12 with h1 | ⟨h1,h2⟩
   all_goals
    go_enter Tryz.func310,Tryz.ntmps310;go_wp2_with fail;refine(zr5 a cap l jt _ (HL _ K0) hm).mono ?_;rintro e0 w1 ⟨rfl,hb⟩;have f0:jc w1 w.heap.size 0 sid:=zac hb (by simp);have f1:jc w1 w.heap.size 1 spt:=zac hb (by simp);have f2:jc w1 w.heap.size 2 (jq b2 o2 ns c2):=zac hb (by simp);have g0:jc w1 (w.heap.size+1) 0 jt:=zac hb (by simp);have g1:jc w1 (w.heap.size+1) 1 je:=zac hb (by simp);have K1:=hI (jo K0 hb);clear hb;rcases zce (fun x:Sec=>decide (x.id=jt)) l with⟨hf,hno⟩ | ⟨k,hk,hf,hid,-⟩
    ·rw[hf];have HE:=hI (HB.none hno HZ);clear hno hf;go_wp2_with fail;go_quiet (fail);go_wp2_with fail;go_ret;exact⟨zab HE.symm,zb6 K1 _⟩
    ·rw[hf];have HJ:=hI (HB.at_ k hk (by simpa using hid) HZ);obtain⟨b,off,a',c',rfl,x0,x1,x2,hends⟩:=(HL _ K1).sec hk;have HEN:=hI hends;have hmk:=HMM k hk;have d0:(0:Int)≤(k:Int):=(by omega);have d1:(k:Int)<(l.length:Int):=(by omega);have d2:decide ((k:Int)<0)=false:=(by simp);clear hends hf hid;generalize hte:l[k].ends=te at *;clear hte;by_cases hn:je<0
     ·have t1:decide (je<0)=true:=(by simp;exact hn);have HE:Hid (B=false):=by show _=_;cases hbb:B with | false=>rfl | true=>have:=HJ.1 hbb;simp only[]at this;omega
      go_wp2_with fail;go_quiet (fail);go_wp2_with fail;go_ret;exact⟨zab HE.symm,zb6 K1 _⟩
     ·have t1:decide (je<0)=false:=(by simp;omega);by_cases hl2:(te.length:Int)≤je
      ·have t2:decide ((te.length:Int)≤je)=true:=by simp;exact hl2
       have HE:Hid (B=false):=by
        show _=_;cases hbb:B with
        | false=>rfl
        | true=>
         have:=HJ.1 hbb;simp only[]at this;rw[List.getElem?_eq_none (by omega)]at this;simp at this
       go_wp2_with fail;go_quiet (fail);go_wp2_with fail;go_ret;exact⟨zab HE.symm,zb6 K1 _⟩
      ·have t2:decide ((te.length:Int)≤je)=false:=(by simp;omega);obtain⟨m,rfl⟩:=Int.eq_ofNat_of_zero_le (by omega:0≤je);have hml:m<te.length:=(by omega);by_cases hs:jt=sid∧(m:Int)=e
       ·have HE:Hid (B=false):=by show _=_;cases hbb:B with | false=>rfl | true=>have:=HJ.1 hbb;simp only[]at this;exact absurd hs this.1
        obtain⟨rfl,hme⟩:=hs;have t3:((m:Int)==(e:Int))=true:=(by rw[beq_iff_eq];exact hme);clear hme;go_wp2_with fail;go_quiet (fail);go_wp2_with fail;go_ret;exact⟨zab HE.symm,zb6 K1 _⟩
       ·obtain⟨b3,o3,rfl,y0,y1⟩:=HEN.jn hml
        have HE:Hid (B=true↔(te[m].to=sid∧te[m].en=(e:Int))):=by
         show _↔_;rw[HJ.out];simp only[Int.toNat_natCast,List.getElem?_eq_getElem hml,Option.some.injEq];constructor
         ·rintro⟨-,-,h⟩;rw[h];exact⟨rfl,rfl⟩
         ·rintro⟨h1,h2⟩;refine⟨hs,by omega,?_⟩;cases hx:te[m]with
          | mk t0 t1=>rw[hx]at h1 h2;simp only[]at h1 h2;rw[h1,h2]
        have m0:(0:Int)≤(m:Int):=(by omega);have m1:(m:Int)<(te.length:Int):=by omega
        have hways:((jt==sid)=false∨((jt==sid)=true∧((m:Int)==(e:Int))=false)):=by
         by_cases h0:jt=sid
         ·right;exact⟨by rw[beq_iff_eq];exact h0,by rw[beq_eq_false_iff_ne];intro h;exact hs ⟨h0,h⟩⟩
         ·left;rw[beq_eq_false_iff_ne];exact h0
        clear hs;generalize te[m].to=z0 at *;generalize te[m].en=z1 at *;rcases hways with q1 | ⟨q1,q2⟩
        all_goals
         go_wp2_with fail;go_quiet (fail);go_wp2_with fail;obtain⟨w2,hw2⟩: ∃w2,w2=w1.drewN nq:=⟨_,rfl⟩;have X2:jc w2 b (off+k * 3+2) (jq b3 o3 te.length c'):=(by rw[hw2];exact x2);have G1:jc w2 (w.heap.size+1) 1 (.int .i64 (m:Int)):=(by rw[hw2];exact g1);have Y0:jc w2 b3 (o3+m * 2) z0:=(by rw[hw2];exact y0);have Y1:jc w2 b3 (o3+m * 2+1) z1:=(by rw[hw2];exact y1);have F0:jc w2 w.heap.size 0 sid:=(by rw[hw2];exact f0);rw[←hw2];have K2:Hid (jb w w2):=(by show Below _ _ _;rw[hw2];exact zb6 K1 _);have n1:=World.new_ne w2 _ X2;have n2:=World.new_ne w2 _ Y0;have n3:=World.new_ne w2 _ Y1;have n4:=World.new_ne w2 _ G1;have n5:=World.new_ne w2 _ F0;have l5:w.heap.size<w2.heap.size:=block_lt_of_cell F0;clear hw2 x0 x1 x2 y0 y1 g0 g1 f0 f1 f2 HL HEN HB HMM HZ HJ
         go_region_held3 (fun w'=>jc w' b (off+k * 3+2) (jq b3 o3 te.length c')∧jc w' (w.heap.size+1) 1 (.int .i64 (m:Int))∧jc w' b3 (o3+m * 2) z0∧jc w' b3 (o3+m * 2+1) z1) (go_keep) (fail)
         go_wp2_with fail
         all_goals
          go_ret;refine⟨zab ?_,?_⟩
          ·have h:=HE.out;rw[Bool.eq_iff_iff,h];simp
           try omega
          ·exact(K2.drew).alloc (Nat.le_trans K2.size (Nat.le_refl _)) _
  exact rest
theorem zr8 (a:Option Addr) (cap:Nat) (l:List Sec) (s:Sec) (a2:Option Addr) (c2:Nat) (e:Nat) (he:e<s.ends.length) (w:World) (hl:SlA w 3 zas a cap l) (hs:SlA w 2 RJn a2 c2 s.ends) (hm:l.length≤1000) (hmm: ∀i (h:i<l.length),l[i].ends.length≤8796093022208) (hm2:s.ends.length≤8796093022208) (hr:zg1 l):
  Calls Tryz.prog 310 #[js a l.length cap,zcd s a2 c2,.int .i64 (e:Int)] w (zae w (decide (zdf l s e s.ends[e]))):=by
 obtain⟨b2,o2,rfl,hj0,hj1⟩:=hs.jn he;refine zr7 a cap l s.id s.pt b2 o2 s.ends.length c2 e he s.ends[e] _ w hl hj0 hj1 hm hmm hm2 ⟨fun h=>decide_eq_true (.inl h),fun h1 h2=>decide_eq_false (zml h1 h2),fun k hk h1 h2=> ?_⟩;rw[decide_eq_true_iff];exact zmk hr hk h1 h2
end Go.Proofs.YtbiehpjhhopjaaaGreat
