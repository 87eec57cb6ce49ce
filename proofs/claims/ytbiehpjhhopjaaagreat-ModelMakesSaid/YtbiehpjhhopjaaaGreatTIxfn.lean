/-
 slices.IndexFunc and slices.ContainsFunc,walked for whatever function value of one answer.
-/
import Derived.Test.YtbiehpjhhopjaaaGreatTPlanA
import Derived.Deep.LoopGhost
import Derived.Deep.Light
set_option linter.unusedVariables false
set_option linter.unusedSimpArgs false
set_option maxRecDepth 100000
set_option maxHeartbeats 16000000
namespace Go.Proofs.YtbiehpjhhopjaaaGreat
open Go.RowKit
def zdb (m:FuncId):Prop:= ∀(args:Array Value) (w:World),Sem.run Tryz.prog (callFunc m args) w= .ok (.enter m args) w
theorem zr9 {α:Type}(p:α→Bool) (l:List α):decide (0≤fix p l)=l.any p:=by
 rcases zce p l with⟨h1,h2⟩ | ⟨k,hk,h1,h2,-⟩
 ·rw[h1]
  symm
  rw[show decide ((0:Int)≤ -1)=false from rfl,List.any_eq_false];intro x hx;obtain⟨i,hi,rfl⟩:=List.getElem_of_mem hx;simp[h2 i hi]
 ·rw[h1]
  symm
  rw[show decide ((0:Int)≤(k:Int))=true by simp,List.any_eq_true];exact⟨l[k],List.getElem_mem hk,h2⟩
def zhs (m:FuncId) (caps:Array Value) (pr:Pt→Bool) (l:List Pt) (w:World):Prop:=
 ∀W i (h:i<l.length),jb w W→Calls Tryz.prog m (#[.agg #[l[i].id,l[i].sec]]++caps) W fun e w'=>e= .returned (.bool (pr l[i]))∧jb W w'
theorem zj8 (m:FuncId) (caps:Array Value) (pr:Pt→Bool) (a:Option Addr) (cap:Nat) (l:List Pt) (w:World) (hl:SlA w 2 RPt a cap l) (hm:l.length≤1000) (hf:zdb m) (hcl:zhs m caps pr l w):
  Calls Tryz.prog 207 #[js a l.length cap,.func (.func m) #[] caps] w fun e w'=>e= .returned (.int .i64 (fix pr l))∧jb w w':=by
 have HL:Hid (∀w',jb w w'→SlA w' 2 RPt a cap l):=fun w' hb=>hl.below zct hb;have hcf: ∀(args:Array Value) (w:World),Sem.run Tryz.prog (callFunc m args) w= .ok (.enter m args) w:=hf;have HCL:=hI hcl;clear hl hcl hf;go_enter Tryz.func207,Tryz.ntmps207;go_wp2_with fail;go_loopg [8] l.length (fun g i wr=> ∃k:Nat,k≤l.length∧g=l.length-k∧i= .int .i64 k∧jb w wr∧ ∀j (h:j<l.length),j<k→pr l[j]=false)
 case atStart=>exact⟨0,by omega,by omega,rfl,Below.refl _ _,fun j h h0=>by omega⟩
 case round=>
  obtain⟨k,hk,rfl,rfl,hb,hno⟩:=hrel;have HB:=hI hb;have HNO:=hI hno;clear hb hno;by_cases hlt:k<l.length
  ·have hd:decide ((k:Int)<(l.length:Int))=true:=(by simp;omega);obtain⟨b,off,rfl,x0,x1⟩:=(HL _ HB).pt hlt;have c0:(0:Int)≤(k:Int):=(by omega);have c1:(k:Int)<(l.length:Int):=(by omega);have HC:Hid (Calls Tryz.prog m (#[.agg #[l[k].id,l[k].sec]]++caps) wr fun e w'=>e= .returned (.bool (pr l[k]))∧jb wr w'):=HCL wr k hlt HB;cases hp:pr l[k]with
   | true=>
    have HE:Hid (fix pr l=(k:Int)):=zfw hlt hp HNO;rw[hp]at HC;clear hp;go_wp2_with fail;refine HC.mono ?_;rintro e0 w1 ⟨rfl,hb1⟩;have K1:=jh HB hb1;clear hb1 HC;go_wp2_with fail;go_ret;exact⟨za0 HE.symm,K1⟩
   | false=>
    have HE:Hid (∀j (h:j<l.length),j<k+1→pr l[j]=false):=fun j h hj=>by
     by_cases hjk:j=k
     ·subst hjk;exact hp
     ·exact HNO j h (by omega)
    rw[hp]at HC;clear hp;go_wp2_with fail;refine HC.mono ?_;rintro e0 w1 ⟨rfl,hb1⟩;have K1:=jh HB hb1;clear hb1 HC;go_wp2_with fail;go_roundg (l.length-(k+1))
    case measure=>go_light;omega
    case rel=>go_light;exact⟨k+1,by omega,by omega,by go_num,K1,HE⟩
  ·obtain rfl:k=l.length:=(by omega);have HE:Hid (fix pr l= -1):=zfx fun j hj=>HNO j hj hj;go_wp2_with fail;go_ret;exact⟨za0 HE.symm,HB⟩
theorem zsa (m:FuncId) (caps:Array Value) (pr:Pt→Bool) (a:Option Addr) (cap:Nat) (l:List Pt) (w:World) (hl:SlA w 2 RPt a cap l) (hm:l.length≤1000) (hf:zdb m) (hcl:zhs m caps pr l w):
  Calls Tryz.prog 118 #[js a l.length cap,.func (.func m) #[] caps] w fun e w'=>e= .returned (.bool (l.any pr))∧jb w w':=by
 have HC:=hI (zj8 m caps pr a cap l w hl hm hf hcl);have HE:=hI (zr9 pr l);clear hl hcl;go_enter Tryz.func118,Tryz.ntmps118;go_wp2_with fail;refine HC.mono ?_;rintro e w1 ⟨rfl,hb⟩;have HB:=hI hb;clear hb;generalize fix pr l=x at *;go_wp2_with fail;go_ret;exact⟨zab HE,HB⟩
def zj9 (m:FuncId) (caps:Array Value) (pr:Sg→Bool) (l:List Sg) (w:World):Prop:=
 ∀W i (h:i<l.length),jb w W→Calls Tryz.prog m (#[.agg #[l[i].id,l[i].sec,l[i].en]]++caps) W fun e w'=>e= .returned (.bool (pr l[i]))∧jb W w'
theorem zmm (m:FuncId) (caps:Array Value) (pr:Sg→Bool) (a:Option Addr) (cap:Nat) (l:List Sg) (w:World) (hl:SlA w 3 RSg a cap l) (hm:l.length≤1000) (hf:zdb m) (hcl:zj9 m caps pr l w):
  Calls Tryz.prog 415 #[js a l.length cap,.func (.func m) #[] caps] w fun e w'=>e= .returned (.int .i64 (fix pr l))∧jb w w':=by
 have HL:Hid (∀w',jb w w'→SlA w' 3 RSg a cap l):=fun w' hb=>hl.below zcu hb;have hcf: ∀(args:Array Value) (w:World),Sem.run Tryz.prog (callFunc m args) w= .ok (.enter m args) w:=hf;have HCL:=hI hcl;clear hl hcl hf;go_enter Tryz.func415,Tryz.ntmps415;go_wp2_with fail;go_loopg [8] l.length (fun g i wr=> ∃k:Nat,k≤l.length∧g=l.length-k∧i= .int .i64 k∧jb w wr∧ ∀j (h:j<l.length),j<k→pr l[j]=false)
 case atStart=>exact⟨0,by omega,by omega,rfl,Below.refl _ _,fun j h h0=>by omega⟩
 case round=>
  obtain⟨k,hk,rfl,rfl,hb,hno⟩:=hrel;have HB:=hI hb;have HNO:=hI hno;clear hb hno;by_cases hlt:k<l.length
  ·have hd:decide ((k:Int)<(l.length:Int))=true:=(by simp;omega);obtain⟨b,off,rfl,x0,x1,x2⟩:=(HL _ HB).sg hlt;have c0:(0:Int)≤(k:Int):=(by omega);have c1:(k:Int)<(l.length:Int):=(by omega);have HC:Hid (Calls Tryz.prog m (#[.agg #[l[k].id,l[k].sec,l[k].en]]++caps) wr fun e w'=>e= .returned (.bool (pr l[k]))∧jb wr w'):=HCL wr k hlt HB;cases hp:pr l[k]with
   | true=>
    have HE:Hid (fix pr l=(k:Int)):=zfw hlt hp HNO;rw[hp]at HC;clear hp;go_wp2_with fail;refine HC.mono ?_;rintro e0 w1 ⟨rfl,hb1⟩;have K1:=jh HB hb1;clear hb1 HC;go_wp2_with fail;go_ret;exact⟨za0 HE.symm,K1⟩
   | false=>
    have HE:Hid (∀j (h:j<l.length),j<k+1→pr l[j]=false):=fun j h hj=>by
     by_cases hjk:j=k
     ·subst hjk;exact hp
     ·exact HNO j h (by omega)
    rw[hp]at HC;clear hp;go_wp2_with fail;refine HC.mono ?_;rintro e0 w1 ⟨rfl,hb1⟩;have K1:=jh HB hb1;clear hb1 HC;go_wp2_with fail;go_roundg (l.length-(k+1))
    case measure=>go_light;omega
    case rel=>go_light;exact⟨k+1,by omega,by omega,by go_num,K1,HE⟩
  ·obtain rfl:k=l.length:=(by omega);have HE:Hid (fix pr l= -1):=zfx fun j hj=>HNO j hj hj;go_wp2_with fail;go_ret;exact⟨za0 HE.symm,HB⟩
def ziq (m:FuncId) (caps:Array Value) (pr:Sec→Bool) (l:List Sec) (w:World):Prop:=
 ∀W i (h:i<l.length),jb w W→ ∀a' c',SlA W 2 RJn a' c' l[i].ends→Calls Tryz.prog m (#[.agg #[l[i].id,l[i].pt,js a' l[i].ends.length c']]++caps) W fun e w'=>e= .returned (.bool (pr l[i]))∧jb W w'
theorem zka (m:FuncId) (caps:Array Value) (pr:Sec→Bool) (a:Option Addr) (cap:Nat) (l:List Sec) (w:World) (hl:SlA w 3 zas a cap l) (hm:l.length≤1000) (hf:zdb m) (hcl:ziq m caps pr l w):
  Calls Tryz.prog 206 #[js a l.length cap,.func (.func m) #[] caps] w fun e w'=>e= .returned (.int .i64 (fix pr l))∧jb w w':=by
 have HL:Hid (∀w',jb w w'→SlA w' 3 zas a cap l):=fun w' hb=>hl.below zbo hb;have hcf: ∀(args:Array Value) (w:World),Sem.run Tryz.prog (callFunc m args) w= .ok (.enter m args) w:=hf;have HCL:=hI hcl;clear hl hcl hf;go_enter Tryz.func206,Tryz.ntmps206;go_wp2_with fail;go_loopg [8] l.length (fun g i wr=> ∃k:Nat,k≤l.length∧g=l.length-k∧i= .int .i64 k∧jb w wr∧ ∀j (h:j<l.length),j<k→pr l[j]=false)
 case atStart=>exact⟨0,by omega,by omega,rfl,Below.refl _ _,fun j h h0=>by omega⟩
 case round=>
  obtain⟨k,hk,rfl,rfl,hb,hno⟩:=hrel;have HB:=hI hb;have HNO:=hI hno;clear hb hno;by_cases hlt:k<l.length
  ·have hd:decide ((k:Int)<(l.length:Int))=true:=(by simp;omega);obtain⟨b,off,a',c',rfl,x0,x1,x2,hen⟩:=(HL _ HB).sec hlt;have c0:(0:Int)≤(k:Int):=(by omega);have c1:(k:Int)<(l.length:Int):=(by omega);have HC:Hid (Calls Tryz.prog m (#[.agg #[l[k].id,l[k].pt,js a' l[k].ends.length c']]++caps) wr fun e w'=>e= .returned (.bool (pr l[k]))∧jb wr w'):=HCL wr k hlt HB a' c' hen;cases hp:pr l[k]with
   | true=>
    have HE:Hid (fix pr l=(k:Int)):=zfw hlt hp HNO;rw[hp]at HC;clear hp;go_wp2_with fail;refine HC.mono ?_;rintro e0 w1 ⟨rfl,hb1⟩;have K1:=jh HB hb1;clear hb1 HC;go_wp2_with fail;go_ret;exact⟨za0 HE.symm,K1⟩
   | false=>
    have HE:Hid (∀j (h:j<l.length),j<k+1→pr l[j]=false):=fun j h hj=>by
     by_cases hjk:j=k
     ·subst hjk;exact hp
     ·exact HNO j h (by omega)
    rw[hp]at HC;clear hp;go_wp2_with fail;refine HC.mono ?_;rintro e0 w1 ⟨rfl,hb1⟩;have K1:=jh HB hb1;clear hb1 HC;go_wp2_with fail;go_roundg (l.length-(k+1))
    case measure=>go_light;omega
    case rel=>go_light;exact⟨k+1,by omega,by omega,by go_num,K1,HE⟩
  ·obtain rfl:k=l.length:=(by omega);have HE:Hid (fix pr l= -1):=zfx fun j hj=>HNO j hj hj;go_wp2_with fail;go_ret;exact⟨za0 HE.symm,HB⟩
end Go.Proofs.YtbiehpjhhopjaaaGreat
