/-
 A region that draws its order,shown by an invariant:each operation once,whatever has come up ahead of it.
-/
import Derived.Still
import Derived.WalkKit
import Derived.Lib.Hide
import Derived.Below
import Derived.LoopTactic
import Derived.BigQuiet
import Derived.Deep.QuietTactic
import Derived.Test.YtbiehpjhhopjaaaGreatProg
import Derived.Lib.QuietBelow
import Derived.Outline
import Derived.Deep.RegionHeld3
import Derived.Deep.DeepCutAuto
set_option linter.unusedVariables false
set_option linter.unusedSimpArgs false
set_option maxRecDepth 100000
set_option maxHeartbeats 16000000
namespace Go.Proofs.YtbiehpjhhopjaaaGreat
section
open Go.RowKit
structure Jb (w W:World)
structure Jc (W:World) (g o:Nat) (v:Value)
structure Jk (W:World) (g:Nat) (c:Array Value) (T:TypeId)
structure Jp (g o:Nat)
structure Js (a:Option Addr) (n c:Nat)
structure Jq (g o n c:Nat)
def jb (w W:World):Jb w W:={}
def jc (W:World) (g o:Nat) (v:Value):Jc W g o v:={}
def jk (W:World) (g:Nat) (c:Array Value) (T:TypeId):Jk W g c T:={}
def jp (g o:Nat):Jp g o:={}
def js (a:Option Addr) (n c:Nat):Js a n c:={}
def jq (g o n c:Nat):Jq g o n c:={}
instance {w W:World}:CoeSort (Jb w W) Prop:=⟨fun _=>Below w.heap.size w W⟩
instance {w W:World}:CoeOut (Jb w W) Prop:=⟨fun _=>Below w.heap.size w W⟩
instance {W:World}{g o:Nat}{v:Value}:CoeSort (Jc W g o v) Prop:=⟨fun _=>W.cell? ⟨g,o,none⟩=some v⟩
instance {W:World}{g o:Nat}{v:Value}:CoeOut (Jc W g o v) Prop:=⟨fun _=>W.cell? ⟨g,o,none⟩=some v⟩
instance {W:World}{g:Nat}{c:Array Value}{T:TypeId}:CoeSort (Jk W g c T) Prop:=⟨fun _=>W.heap[g]? =some (.cells c T (0,0))⟩
instance {W:World}{g:Nat}{c:Array Value}{T:TypeId}:CoeOut (Jk W g c T) Prop:=⟨fun _=>W.heap[g]? =some (.cells c T (0,0))⟩
instance {g o:Nat}:CoeOut (Jp g o) Value:=⟨fun _=>.pointer (some ⟨g,o,none⟩)⟩
instance {a:Option Addr}{n c:Nat}:CoeOut (Js a n c) Value:=⟨fun _=>.slice a n c⟩
instance {g o n c:Nat}:CoeOut (Jq g o n c) Value:=⟨fun _=>.slice (some ⟨g,o,none⟩) n c⟩
instance:Coe Int Value:=⟨fun n=>.int .i64 n⟩
instance:Coe Nat Value:=⟨fun n=>.int .i64 (n:Int)⟩
theorem hI {p:Prop} (h:p):Hid p:=h
theorem jal {w:World}{o:Obj}:Below w.heap.size w (w.alloc o):=(Below.refl _ _).alloc (Nat.le_refl _) _
theorem jt {w W V:World}(h:Below w.heap.size w W) (k:Below W.heap.size W V):Below w.heap.size w V:=h.trans (k.mono h.size)
theorem jh {w W V:World}(h:Hid (Below w.heap.size w W)) (k:Below W.heap.size W V):Hid (Below w.heap.size w V):=h.out.trans (k.mono h.out.size)
theorem jo {w W V:World}(h:Hid (Below w.heap.size w W)) (k:Below W.heap.size W V):Below w.heap.size w V:=h.out.trans (k.mono h.out.size)
theorem jr {W:World}{g o:Nat}{c:Array Value}{T:TypeId}{f:Nat × Nat}{v:Value}(h:W.heap[g]? =some (.cells c T f)) (e:c[o]? =some v:=by rfl):W.cell? ⟨g,o,none⟩=some v:=(cell_of_row W g o _ _ _ h).trans e
theorem jm {w W:World}{g:Nat}{o:Obj}(hb:Below w.heap.size w W) (h:Hid (w.heap[g]? =some o)):W.heap[g]? =some o:=(hb.block g (by rcases Nat.lt_or_ge g w.heap.size with k | k;exact k;exact absurd (h.out.symm.trans (Array.getElem?_eq_none k)) (by simp))).trans h.out
theorem jy {a b:Int}(h:a=b):(a==b)=true∧(a != b)=false:=by subst h;simp
theorem jn {a b:Int}(h:a≠b):(a==b)=false∧(a != b)=true:=by simp[h]
end
section
variable {P:Program}{ops:Array Oper}{Q:Exit→Act→World→Prop}
def zif (n:Nat) (listed:Array Bool):Nat:=(List.range n).countP fun j=>listed.getD j true=false
theorem zqp {l:List Nat}{p q:Nat→Bool}(h: ∀x,q x=true→p x=true){i:Nat}(hi:i∈l) (hn:l.Nodup) (hp:p i=true) (hq:q i=false) (he: ∀x,x≠i→q x=p x):l.countP p=l.countP q+1:=by
 induction l with
 | nil=>cases hi
 | cons x l ih=>
  rw[List.countP_cons,List.countP_cons];have hn':=List.nodup_cons.1 hn;rcases List.mem_cons.1 hi with rfl | hi
  ·rw[if_pos hp,if_neg (by simp[hq])];have:l.countP p=l.countP q:=List.countP_congr fun y hy=>by rw[he y (fun e=>hn'.1 (e ▸ hy))]
   omega
  ·rw[ih hi hn'.2,he x (fun e=>hn'.1 (e ▸ hi))];omega
theorem zqq {listed:Array Bool}{i:Nat}(hsz:listed.size=ops.size) (h:listed.getD i true=false):zif ops.size listed=zif ops.size (listed.setIfInBounds i true)+1:=by
 have hi:i<listed.size:=by
  rcases Nat.lt_or_ge i listed.size with h' | h'
  ·exact h'
  ·simp[Array.getElem?_eq_none h']at h
 refine zqp (i:=i) ?_ (by simp;omega) List.nodup_range (by simpa using h) ?_ ?_
 ·intro x hx;by_cases hxi:x=i
  ·subst hxi;simpa using h
  ·simp only[decide_eq_true_eq]at hx ⊢;rw[getD_set_ne true (Ne.symm hxi)]at hx;exact hx
 ·simp[hi]
 ·intro x hxi;simp only[decide_eq_decide];rw[getD_set_ne true (Ne.symm hxi)]
theorem zly: ∀(fuel k:Nat) (listed:Array Bool),Region.lexFrom .any ops fuel k listed=true→(∀j,listed.getD j false=true→j<k)→
  ∀m o,ops[m]? =some o→k≤m→m<k+fuel→ ∀e∈o.after,Region.binds .any e=true→e.on<m
 | 0,k,listed,_,_,m,_,_,h1,h2=>by omega
 | fuel+1,k,listed,h,hl,m,o,ho,h1,h2=>by
  simp only[Region.lexFrom,Bool.and_eq_true]at h;obtain⟨⟨hr,_⟩,h'⟩:=h;by_cases hmk:m=k
  ·subst hmk;have hmem:m∈Region.ready .any ops listed:=(by simpa using hr);obtain⟨_,o',ho',hall⟩:=mem_ready.1 hmem;rw[ho]at ho';cases ho';exact fun e he hb=>hl _ (hall e he hb)
  ·refine zly fuel (k+1) _ h' ?_ m o ho (by omega) (by omega);intro j hj;by_cases hjk:j=k
   ·omega
   ·rw[getD_set_ne false (Ne.symm hjk)]at hj;have:=hl j hj;omega
theorem zqr (hB:Region.lexB .any ops=true){listed:Array Bool}(hsz:listed.size=ops.size) (h: ∃j,j<ops.size∧listed.getD j true=false):Region.ready .any ops listed≠[]:=by
 simp only[Region.lexB,Bool.and_eq_true]at hB;have hE:=zly (ops:=ops) ops.size 0 _ hB.2 (by intro j hj;exfalso;by_cases hjs:j<ops.size<;>simp[Array.getD,hjs]at hj);obtain⟨j,hj,hun⟩:=h
 have: ∃k,k<ops.size∧listed.getD k true=false∧ ∀i,i<k→listed.getD i true=true:=by
  induction j using Nat.strongRecOn with
  | _ j ih=>
   by_cases hx: ∃i,i<j∧listed.getD i true=false
   ·obtain⟨i,hi,hu⟩:=hx;exact ih i hi (by omega) hu
   ·refine⟨j,hj,hun,fun i hi=> ?_⟩;cases hc:listed.getD i true with
    | true=>rfl
    | false=>exact absurd ⟨i,hi,hc⟩ hx
 obtain⟨k,hk,hku,hlow⟩:=this
 have hmem:k∈Region.ready .any ops listed:=by
  refine mem_ready.2 ⟨hku,ops[k],Array.getElem?_eq_getElem hk,fun e he hb=> ?_⟩;have h1:=hE k _ (Array.getElem?_eq_getElem hk) (by omega) (by omega) e he hb;have h2:=hlow _ h1;have h3:e.on<listed.size:=by omega
  simpa [h3]using h2
 intro e;rw[e]at hmem;cases hmem
theorem zqs (hB:Region.lexB .any ops=true) (I:Array Bool→Act→World→Prop)
  (hstep: ∀(i:Nat) (o:Oper),ops[i]? =some o→ ∀listed a w,I listed a w→(∀e∈o.after,Region.binds .any e=true→listed.getD e.on false=true)→listed.getD i false=false→wpOp P ops Q i (fun a' w'=>I (listed.setIfInBounds i true) a' w') a w)
  (hend: ∀listed a w,I listed a w→(∀j,j<ops.size→listed.getD j false=true)→Q .normal a w):
  ∀(fuel:Nat) (listed:Array Bool) (a:Act) (w:World),listed.size=ops.size→zif ops.size listed=fuel→I listed a w→wpAny P .any ops Q fuel listed a w:=by
 have none: ∀listed:Array Bool,listed.size=ops.size→Region.ready .any ops listed=[]→ ∀j,j<ops.size→listed.getD j false=true:=by
  intro listed hsz hr j hj;cases hc:listed.getD j false with
  | true=>rfl
  | false=>
   have hj':j<listed.size:=(by omega);exact absurd hr (zqr hB hsz ⟨j,hj,by simpa [hj']using hc⟩)
 intro fuel
 induction fuel with
 | zero=>
  intro listed a w hsz hl hI
  have hall: ∀j,j<ops.size→listed.getD j false=true:=by
   intro j hj;have:=List.countP_eq_zero.1 hl j (by simpa using hj);have hj':j<listed.size:=by omega
   simpa [hj']using this
  refine⟨?_,hend listed a w hI hall⟩;cases hr:Region.ready .any ops listed with
  | nil=>rfl
  | cons j r=>
   have hm:j∈Region.ready .any ops listed:=(by rw[hr];exact List.mem_cons_self);obtain⟨h1,o,ho,_⟩:=mem_ready.1 hm;have hj:j<ops.size:=(Array.getElem?_eq_some_iff.1 ho).1;have h2:=hall j hj;have hj':j<listed.size:=(by omega);simp[hj']at h1 h2;rw[h1]at h2;cases h2
 | succ fuel ih=>
  intro listed a w hsz hl hI;refine⟨fun hr=>hend listed a w hI (none listed hsz hr),fun i hi=> ?_⟩;obtain⟨h1,o,ho,hd⟩:=mem_ready.1 hi;have hilt:i<listed.size:=by rw[hsz];exact(Array.getElem?_eq_some_iff.1 ho).1
  refine wpOp_mono (fun a' w' h'=>ih _ a' w' (by simpa using hsz) ?_ h') (hstep i o ho listed a w hI hd (by simpa [hilt]using h1));have:=zqq (ops:=ops) hsz h1;omega
theorem zqt {id:Nat}{a:Act}{w:World}(hm:P.follows .mixedOrders=true) (hB:Region.lexB .any ops=true) (I:Array Bool→Act→World→Prop)
  (h0:I (Array.replicate ops.size false) a {w with drawn:=w.drawn+1})
  (hstep: ∀(i:Nat) (o:Oper),ops[i]? =some o→ ∀listed a w,I listed a w→(∀e∈o.after,Region.binds .any e=true→listed.getD e.on false=true)→listed.getD i false=false→wpOp P ops Q i (fun a' w'=>I (listed.setIfInBounds i true) a' w') a w)
  (hend: ∀listed a w,I listed a w→(∀j,j<ops.size→listed.getD j false=true)→Q .normal a w):(Code.region id ops true).wp P Q a w:=by
 refine wp_region_any hm (zqs hB I hstep hend _ _ _ _ (by simp) ?_ h0);unfold zif;rw[List.countP_eq_length.2 (fun j hj=>by simp at hj;simp[hj])];simp
theorem zd7 {id:Nat}{a:Act}{w:World}(hm:P.follows .mixedOrders=true) (hB:Region.lexB .any ops=true) (I:(Nat→Bool)→Act→World→Prop)
  (h0:I (fun _=>false) a {w with drawn:=w.drawn+1})
  (hstep: ∀(i:Nat) (o:Oper),ops[i]? =some o→ ∀(f:Nat→Bool) a w,I f a w→(∀e∈o.after,Region.binds .any e=true→f e.on=true)→f i=false→wpOp P ops Q i (fun a' w'=>I (fun j=>decide (j=i) || f j) a' w') a w)
  (hend: ∀(f:Nat→Bool) a w,I f a w→(∀j,j<ops.size→f j=true)→Q .normal a w):(Code.region id ops true).wp P Q a w:=by
 refine zqt hm hB (fun L a w=>L.size=ops.size∧I (fun j=>L.getD j false) a w) ⟨by simp,?_⟩ ?_ (fun L a w h=>hend _ a w h.2)
 ·have e:(fun j=>(Array.replicate ops.size false).getD j false)=fun _=>false:=by
   funext j
   by_cases hj:j<ops.size<;>simp[Array.getD,hj]
  rw[e];exact h0
 ·intro i o ho L a w ⟨hsz,hI⟩ hd hun;have hi:i<L.size:=by rw[hsz];exact(Array.getElem?_eq_some_iff.1 ho).1
  refine wpOp_mono (fun a' w' h=>⟨by simpa using hsz,?_⟩) (hstep i o ho _ a w hI hd hun)
  have e:(fun j=>(L.setIfInBounds i true).getD j false)=fun j=>decide (j=i) || L.getD j false:=by
   funext j
   by_cases hj:j=i
   ·subst hj;simp[hi]
   ·rw[getD_set_ne false (Ne.symm hj)];simp[hj]
  rw[e];exact h
end
end Go.Proofs.YtbiehpjhhopjaaaGreat
namespace Go.Proofs.YtbiehpjhhopjaaaGreat
open Go.RowKit
structure IL (w:World) (a:Option Addr) (len:Nat) (l:List Int):Prop where
 len:l.length=len
 cell: ∀i (h:i<l.length),∃b off,a=some ⟨b,off,none⟩∧jc w b (off+i) l[i]
theorem IL.below {w w':World}{a:Option Addr}{len:Nat}{l:List Int}(h:IL w a len l) (hb:jb w w'):IL w' a len l:=
 ⟨h.len,fun i hi=>by
  obtain⟨b,off,e,hc⟩:=h.cell i hi
  exact⟨b,off,e,(hb.cell (p:=⟨b,off+i,none⟩) (block_lt_of_cell hc)).trans hc⟩⟩
theorem IL.drewN {w:World}{a:Option Addr}{len:Nat}{l:List Int}(h:IL w a len l) (n:Nat):IL (w.drewN n) a len l:=⟨h.len,h.cell⟩
theorem zab {a b:Bool}(h:a=b):Ending.returned (.bool a)= .returned (.bool b):=by rw[h]
theorem za0 {k:IntKind}{a b:Int}(h:a=b):Ending.returned (.int k a)= .returned (.int k b):=by rw[h]
def eqB (l m:List Int):Bool:=decide (l=m)
def zig (w:World) (b:Bool) (e:Ending) (w':World):Prop:=e= .returned (.bool b)∧ ∃n,w'=w.drewN n
theorem zlz {l m:List Int}(h:l.length≠m.length):eqB l m=false:=by
 unfold eqB;rw[decide_eq_false_iff_not];rintro rfl;exact h rfl
theorem zl0 {l m:List Int}{k:Nat}(h1:k<l.length) (h2:k<m.length) (h:l[k]≠m[k]):eqB l m=false:=by
 unfold eqB;rw[decide_eq_false_iff_not];rintro rfl;exact h rfl
theorem zl1 {l m:List Int}(hl:l.length=m.length) (h: ∀j (h1:j<l.length) (h2:j<m.length),l[j]=m[j]):eqB l m=true:=by
 unfold eqB;rw[decide_eq_true_iff];exact List.ext_getElem hl h
theorem zqu (a b:Option Addr) (la lb ca cb:Nat) (l m:List Int) (w:World) (hl:IL w a la l) (hm:IL w b lb m) (ha:la≤17592186044416) (hb:lb≤17592186044416):
  Calls Tryz.prog 99 #[js a la ca,js b lb cb] w (zig w (eqB l m)):=by
 have HL:=hI hl;have HM:=hI hm;have hll:=hI hl.len;have hml:=hI hm.len;clear hl hm;by_cases hne:la=lb
 ·subst hne;have hd0:((la:Int) != (la:Int))=false:=by simp
  go_enter Tryz.func99,Tryz.ntmps99;go_wp2_with fail
  go_loopw [13] (fun i wr=> ∃k:Nat,k≤la∧i= .int .i64 k∧(∃q,wr=w.drewN q)∧ ∀j (h1:j<l.length) (h2:j<m.length),j<k→l[j]=m[j]) (fun i _=>la-(intOf i).toNat)
  case atStart=>exact⟨0,by omega,rfl,⟨0,rfl⟩,fun j h1 h2 h0=>by omega⟩
  case round=>
   obtain⟨k,hk,rfl,⟨q,rfl⟩,hno⟩:=hrel;have HNO:=hI hno;clear hno;by_cases hlt:k<la
   ·have hd:decide ((k:Int)<(la:Int))=true:=(by simp;omega);have hkl:k<l.length:=(by rw[hll.out];exact hlt);have hkm:k<m.length:=(by rw[hml.out];exact hlt);obtain⟨b1,o1,rfl,hc⟩:=HL.cell k hkl;obtain⟨b2,o2,rfl,hc2⟩:=HM.cell k hkm;have c0:(0:Int)≤(k:Int):=(by omega);have c1:(k:Int)<(la:Int):=(by omega);by_cases he:l[k]=m[k]
    ·have heq:(l[k] != m[k])=false:=(by rw[he];simp);have HE:=hI he;clear he;go_wp2_with fail;go_quiet (fail);go_wp2_with fail
     go_roundw
     case rel=>
      refine⟨k+1,by omega,by go_num,⟨_,rfl⟩,fun j h1 h2 hj=> ?_⟩;by_cases hjk:j=k
      ·subst hjk;exact HE
      ·exact HNO j h1 h2 (by omega)
     case measure=>simp[intOf];omega
    ·have heq:(l[k] != m[k])=true:=(by rw[bne_iff_ne];exact he);have HE:Hid (eqB l m=false):=zl0 hkl hkm he;clear he;go_wp2_with fail;go_quiet (fail);go_wp2_with fail;go_ret;exact⟨zab HE.symm,by first | exact⟨_,rfl⟩ | exact⟨_,World.drewN_drewN _ _ _⟩⟩
   ·obtain rfl:k=la:=(by omega);have HE:Hid (eqB l m=true):=zl1 (hll.trans hml.symm) (fun j h1 h2=>HNO j h1 h2 (by rw[←hll.out];exact h1));go_wp2_with fail;go_ret;exact⟨zab HE.symm,by first | exact⟨_,rfl⟩ | exact⟨_,World.drewN_drewN _ _ _⟩⟩
 ·have hd0:((la:Int) != (lb:Int))=true:=by rw[bne_iff_ne];omega
  have HE:Hid (eqB l m=false):=zlz (by rw[hll.out,hml.out];exact hne);clear hne;go_enter Tryz.func99,Tryz.ntmps99;go_wp2_with fail;go_ret;exact⟨zab HE.symm,0,rfl⟩
theorem zqv (a b:Option Addr) (la lb ca cb:Nat) (l m:List Int) (w:World) (hl:IL w a la l) (hm:IL w b lb m) (ha:la≤17592186044416) (hb:lb≤17592186044416):
  Calls Tryz.prog 97 #[js a la ca,js b lb cb] w (zig w (eqB l m)):=by
 have HL:=hI hl;have HM:=hI hm;have hll:=hI hl.len;have hml:=hI hm.len;clear hl hm;by_cases hne:la=lb
 ·subst hne;have hd0:((la:Int) != (la:Int))=false:=by simp
  go_enter Tryz.func97,Tryz.ntmps97;go_wp2_with fail
  go_loopw [5] (fun i wr=> ∃k:Nat,k≤la∧i= .int .i64 k∧(∃q,wr=w.drewN q)∧ ∀j (h1:j<l.length) (h2:j<m.length),j<k→l[j]=m[j]) (fun i _=>la-(intOf i).toNat)
  case atStart=>exact⟨0,by omega,rfl,⟨0,rfl⟩,fun j h1 h2 h0=>by omega⟩
  case round=>
   obtain⟨k,hk,rfl,⟨q,rfl⟩,hno⟩:=hrel;have HNO:=hI hno;clear hno;by_cases hlt:k<la
   ·have hd:decide ((k:Int)<(la:Int))=true:=(by simp;omega);have hkl:k<l.length:=(by rw[hll.out];exact hlt);have hkm:k<m.length:=(by rw[hml.out];exact hlt);obtain⟨b1,o1,rfl,hc⟩:=HL.cell k hkl;obtain⟨b2,o2,rfl,hc2⟩:=HM.cell k hkm;have c0:(0:Int)≤(k:Int):=(by omega);have c1:(k:Int)<(la:Int):=(by omega);by_cases he:l[k]=m[k]
    ·have heq:(l[k] != m[k])=false:=(by rw[he];simp);have HE:=hI he;clear he;go_wp2_with fail;go_quiet (fail);go_wp2_with fail
     go_roundw
     case rel=>
      refine⟨k+1,by omega,by go_num,⟨_,rfl⟩,fun j h1 h2 hj=> ?_⟩;by_cases hjk:j=k
      ·subst hjk;exact HE
      ·exact HNO j h1 h2 (by omega)
     case measure=>simp[intOf];omega
    ·have heq:(l[k] != m[k])=true:=(by rw[bne_iff_ne];exact he);have HE:Hid (eqB l m=false):=zl0 hkl hkm he;clear he;go_wp2_with fail;go_quiet (fail);go_wp2_with fail;go_ret;exact⟨zab HE.symm,by first | exact⟨_,rfl⟩ | exact⟨_,World.drewN_drewN _ _ _⟩⟩
   ·obtain rfl:k=la:=(by omega);have HE:Hid (eqB l m=true):=zl1 (hll.trans hml.symm) (fun j h1 h2=>HNO j h1 h2 (by rw[←hll.out];exact h1));go_wp2_with fail;go_ret;exact⟨zab HE.symm,by first | exact⟨_,rfl⟩ | exact⟨_,World.drewN_drewN _ _ _⟩⟩
 ·have hd0:((la:Int) != (lb:Int))=true:=by rw[bne_iff_ne];omega
  have HE:Hid (eqB l m=false):=zlz (by rw[hll.out,hml.out];exact hne);clear hne;go_enter Tryz.func97,Tryz.ntmps97;go_wp2_with fail;go_ret;exact⟨zab HE.symm,0,rfl⟩
end Go.Proofs.YtbiehpjhhopjaaaGreat
namespace Go.Proofs.YtbiehpjhhopjaaaGreat
open Go.RowKit Go.Sort
def ILv (w:World) (v:Value) (l:List Int):Prop:= ∃a len cap,v= .slice a len cap∧IL w a len l
theorem ILv.below {w w':World}{v:Value}{l:List Int}(h:ILv w v l) (hb:jb w w'):ILv w' v l:=by
 obtain⟨a,n,c,e,hl⟩:=h;exact⟨a,n,c,e,hl.below hb⟩
theorem ILv.nil (w:World):ILv w (.slice none 0 0) []:=⟨none,0,0,rfl,rfl,fun i h=>by simp at h⟩
structure Ar where
 s:List Int
 p:List Int
 g:List Int
 r:List Int
structure AL (w:World) (s p g r:Value) (x:Ar):Prop where
 s:ILv w s x.s
 p:ILv w p x.p
 g:ILv w g x.g
 r:ILv w r x.r
theorem AL.below {w w':World}{s p g r:Value}{x:Ar}(h:AL w s p g r x) (hb:jb w w'):AL w' s p g r x:=
 ⟨h.s.below hb,h.p.below hb,h.g.below hb,h.r.below hb⟩
structure Old (N:Nat) (w0 w:World):Prop where
 os:w.os=w0.os
 tape:w.tape=w0.tape
 output:w.output=w0.output
 size:N≤w.heap.size
 block: ∀b,b<N→w.heap[b]? =w0.heap[b]?
theorem Old.alloc {N:Nat}{w0 w:World}(h:Old N w0 w) (o:Obj):Old N w0 (w.alloc o):=
 ⟨h.os,h.tape,h.output,Nat.le_trans h.size (by simp),fun b hb=>(Below.heap_alloc w o b (Nat.lt_of_lt_of_le hb h.size)).trans (h.block b hb)⟩
theorem Old.below {N:Nat}{w0 w w':World}(h:Old N w0 w) (hb:jb w w'):Old N w0 w':=
 ⟨hb.os.trans h.os,hb.tape.trans h.tape,hb.output.trans h.output,Nat.le_trans h.size hb.size,fun b h'=>(hb.block b (Nat.lt_of_lt_of_le h' h.size)).trans (h.block b h')⟩
theorem Old.setCell {N:Nat}{w0 w:World}(h:Old N w0 w){p:Addr}(hp:N≤p.block) (u:Value):Old N w0 (w.setCell p u):=
 ⟨h.os,h.tape,h.output,by simpa [World.setCell]using h.size,fun b hb=>(Below.heap_setCell w p u b (by omega)).trans (h.block b hb)⟩
theorem Old.drew {N:Nat}{w0 w:World}(h:Old N w0 w):Old N w0 w.drew:=⟨h.os,h.tape,h.output,h.size,h.block⟩
def KO (N:Nat) (w0 w:World):Prop:=Old N w0 w∧N≤w.heap.size∧ ∀b o,b<N→w.cell? ⟨b,o,none⟩=w0.cell? ⟨b,o,none⟩
theorem KO.of {N:Nat}{w0 w:World}(h:Old N w0 w):Old N w0 w∧N≤w.heap.size∧ ∀b o,b<N→w.cell? ⟨b,o,none⟩=w0.cell? ⟨b,o,none⟩:=
 ⟨h,h.size,fun b o hb=>World.cell?_of_block (h.block b hb)⟩
theorem Below.of_old {B N:Nat}{w0 w v:World}(h:Old N w0 w) (hb:Below B v w0) (hB:B≤N) (hN:v.heap.size≤N):Below B v w:=
 ⟨h.os.trans hb.os,h.tape.trans hb.tape,h.output.trans hb.output,Nat.le_trans hN h.size,fun k hk=>(h.block k (Nat.lt_of_lt_of_le hk hB)).trans (hb.block k hk)⟩
theorem zac {W w1:World}{p:Addr}{v:Value}(hb:jb W w1) (h:W.cell? p=some v):w1.cell? p=some v:=(hb.cell (block_lt_of_cell h)).trans h
theorem zb6 {B:Nat}{a w:World}(h:Below B a w) (n:Nat):Below B a (w.drewN n):=⟨h.os,h.tape,h.output,h.size,h.block⟩
structure S17 (N:Nat) (w0:World) (A A5 B B5:Array Value) (f0 f1 f2 f3 f4 f5 f6 f7:Bool) (s5 s6 s8 s9 s10 s11:Value) (W:World):Prop where
 old:Old N w0 W
 h0:f0=true→s8= .agg A
 h1:f1=true→s9= .agg A5
 h2:f2=true→s10= .agg B
 h3:f3=true→s11= .agg B5
 h4:f4=true→ ∃g,s5= .pointer (some ⟨g,0,none⟩)∧N≤g∧jk W g (if f6 then A5 else#[.slice none 0 0,.slice none 0 0,.slice none 0 0,.slice none 0 0,.slice none 0 0]) 146
 h5:f5=true→ ∃g,s6= .pointer (some ⟨g,0,none⟩)∧N≤g∧jk W g (if f7 then B5 else#[.slice none 0 0,.slice none 0 0,.slice none 0 0,.slice none 0 0,.slice none 0 0]) 146
 h6:f4=true→f5=true→s5≠s6
 h7:f6=true→f4=true
 h8:f7=true→f5=true
theorem S17.below {N:Nat}{w0:World}{A A5 B B5:Array Value}{f0 f1 f2 f3 f4 f5 f6 f7:Bool}{s5 s6 s8 s9 s10 s11:Value}{W W':World}(h:S17 N w0 A A5 B B5 f0 f1 f2 f3 f4 f5 f6 f7 s5 s6 s8 s9 s10 s11 W) (hb:jb W W'):S17 N w0 A A5 B B5 f0 f1 f2 f3 f4 f5 f6 f7 s5 s6 s8 s9 s10 s11 W':=
 ⟨h.old.below hb,h.h0,h.h1,h.h2,h.h3,fun e=>by
  obtain⟨g,e1,e2,e3⟩:=h.h4 e;exact⟨g,e1,e2,(hb.block g (by rcases Nat.lt_or_ge g W.heap.size with q | q;exact q;rw[Array.getElem?_eq_none q]at e3;cases e3)).trans e3⟩,fun e=>by
  obtain⟨g,e1,e2,e3⟩:=h.h5 e
  exact⟨g,e1,e2,(hb.block g (by rcases Nat.lt_or_ge g W.heap.size with q | q;exact q;rw[Array.getElem?_eq_none q]at e3;cases e3)).trans e3⟩,h.h6,h.h7,h.h8⟩
section
open Go.RowKit
theorem zjt {W:World}{g:Nat}{c0 c1:Value}{T:TypeId}{fr:Nat × Nat}(h:W.heap[g]? =some (.cells #[c0,c1] T fr)):jc W g 0 c0∧jc W g 1 c1:=
  ⟨jr h,jr h⟩
theorem zap {W:World}{g:Nat}{c0 c1 c2:Value}{T:TypeId}{fr:Nat × Nat}(h:W.heap[g]? =some (.cells #[c0,c1,c2] T fr)):jc W g 0 c0∧jc W g 1 c1∧jc W g 2 c2:=
  ⟨jr h,jr h,jr h⟩
theorem zfv {W:World}{g:Nat}{c0 c1 c2 c3:Value}{T:TypeId}{fr:Nat × Nat}(h:W.heap[g]? =some (.cells #[c0,c1,c2,c3] T fr)):jc W g 0 c0∧jc W g 1 c1∧jc W g 2 c2∧jc W g 3 c3:=
  ⟨jr h,jr h,jr h,jr h⟩
theorem zan {W:World}{g:Nat}{c0 c1 c2 c3 c4 c5:Value}{T:TypeId}{fr:Nat × Nat}(h:W.heap[g]? =some (.cells #[c0,c1,c2,c3,c4,c5] T fr)):jc W g 0 c0∧jc W g 1 c1∧jc W g 2 c2∧jc W g 3 c3∧jc W g 4 c4∧jc W g 5 c5:=
  ⟨jr h,jr h,jr h,jr h,jr h,jr h⟩
theorem zb7 {W:World}{g:Nat}{c0 c1 c2 c3 c4 c5 c6:Value}{T:TypeId}{fr:Nat × Nat}(h:W.heap[g]? =some (.cells #[c0,c1,c2,c3,c4,c5,c6] T fr)):jc W g 0 c0∧jc W g 1 c1∧jc W g 2 c2∧jc W g 3 c3∧jc W g 4 c4∧jc W g 5 c5∧jc W g 6 c6:=
  ⟨jr h,jr h,jr h,jr h,jr h,jr h,jr h⟩
theorem z0a {W:World}{g:Nat}{c0 c1 c2 c3 c4 c5 c6 c7 c8:Value}{T:TypeId}{fr:Nat × Nat}(h:W.heap[g]? =some (.cells #[c0,c1,c2,c3,c4,c5,c6,c7,c8] T fr)):jc W g 0 c0∧jc W g 1 c1∧jc W g 2 c2∧jc W g 3 c3∧jc W g 4 c4∧jc W g 5 c5∧jc W g 6 c6∧jc W g 7 c7∧jc W g 8 c8:=
  ⟨jr h,jr h,jr h,jr h,jr h,jr h,jr h,jr h,jr h⟩
theorem zah {P:Program}{ops:Array Oper}{i:Nat}{a:Act}{w:World}{Q:Exit→Act→World→Prop}{K:Act→World→Prop}{F9:Act}{w9:World}(h:wpOp P ops Q i (fun a' w'=>a'=F9∧w'=w9) a w) (hk:K F9 w9):wpOp P ops Q i K a w:=
  wpOp_mono (fun a' w' hh=>by obtain⟨rfl,rfl⟩:=hh;exact hk) h
theorem zgw {P:Program}{ops:Array Oper}{i:Nat}{a:Act}{w:World}{Q:Exit→Act→World→Prop}{K:Act→World→Prop}{F9:Act}{R:World→Prop}(h:wpOp P ops Q i (fun a' w'=>a'=F9∧R w') a w) (hk: ∀w',R w'→K F9 w'):wpOp P ops Q i K a w:=
  wpOp_mono (fun a' w' hh=>by obtain⟨rfl,hb⟩:=hh;exact hk w' hb) h
end
end Go.Proofs.YtbiehpjhhopjaaaGreat
